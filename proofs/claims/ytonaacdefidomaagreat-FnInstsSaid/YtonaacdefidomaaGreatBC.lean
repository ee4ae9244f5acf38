/-
  Right instances. Conditions: bounds on the sizes.
  Right instances. Conditions: bounds on the sizes.
  Right rows of instances: impl.InstsOk, spec.InstsOk. Conditions: bounds on the sizes.
  Commands that clash: impl.Clash and spec.Clash. Conditions: a bound on the sizes.
  The law of XRegF, and an operation that only reads but that the quiet steps do not take (a comparison of structs) walked in its own place (act).
  AttrsOf as a plain function; the reference's l8Attrs and AttrsOf. Conditions: bounds on the sizes.
-/
import Derived.Test.YtonaacdefidomaaGreatBB
import Derived.Test.YtonaacdefidomaaGreatBA
set_option linter.unusedVariables false
set_option linter.unusedSimpArgs false
namespace Go.Proofs.YtonaacdefidomaaGreat
open Go.RowKit

set_option maxRecDepth 100000 in
set_option maxHeartbeats 8000000 in
theorem iInstOk_any (x : InstD) (cs0 : List Value) (w : World) (hwt0 : x.c.wt ≤ 1048576) (h0 : Rep anyB w x.c cs0) :
    Calls Tryz.prog 51 #[.agg cs0.toArray] w fun e w' => e = .returned (.bool (instOkB x)) ∧ Below w.heap.size w w' := by
  have hw0 : x.c.wt = (x.cmd.set.length + (x.cmd.name.length + (x.cmd.tag.length + (x.cmd.chunks.length + (cat strC x.cmd.chunks).wt + (x.deps.length + (cat IdD.c x.deps).wt + 0))))) := rfl
  obtain ⟨Aa0, ka0, Aa1, ka1, rfl, sa0, sa1⟩ := InstD.open h0
  obtain ⟨⟨a0, a1⟩, a2, a3, a4, ⟨a5, a6, a7, a8, a9, a10, a11, a12⟩, a13, a14, a15⟩ := x
  simp only [] at sa0 sa1 hw0 ⊢
  have Wa8 : a8.length ≤ 1048576 := by omega
  have Wa9 : a9.length ≤ 1048576 := by omega
  have Wa10 : a10.length ≤ 1048576 := by omega
  have Sa12 := Lib.hid sa0; clear sa0
  have Wa12 : a12.length + (cat strC a12).wt ≤ 1048576 := by omega
  have Sa14 := Lib.hid sa1; clear sa1
  have Wa14 : a14.length + (cat IdD.c a14).wt ≤ 1048576 := by omega
  have Sid0 := Lib.hid (show Rep anyB w (IdD.c ⟨a0, a1⟩) [.int .i64 a0, .int .i64 a1] from IdD.shut)
  have Wcmd0 : (CmdD.c ⟨a5, a6, a7, a8, a9, a10, a11, a12⟩).wt ≤ 1048576 := by have e0 : (CmdD.c ⟨a5, a6, a7, a8, a9, a10, a11, a12⟩).wt = (a8.length + (a9.length + (a10.length + (a12.length + (cat strC a12).wt + 0)))) := rfl; omega
  have Scmd0 := Lib.hid (show Rep anyB w (CmdD.c ⟨a5, a6, a7, a8, a9, a10, a11, a12⟩) [.int .i64 a5, .int .i64 a6, .int .i64 a7, .string (bs a8), .string (bs a9), .string (bs a10), .int .i64 a11, .slice Aa0 a12.length ka0] from CmdD.shut Sa12.out)
  clear h0 hwt0 hw0
  obtain ⟨R, hR⟩ : ∃ R, R = instOkB (⟨⟨a0, a1⟩, a2, a3, a4, ⟨a5, a6, a7, a8, a9, a10, a11, a12⟩, a13, a14, a15⟩ : InstD) := ⟨_, rfl⟩
  rw [← hR]
  rw [instOkB] at hR
  simp only [] at hR
  have HR := Lib.hid hR; clear hR
  go_enter Tryz.func51, Tryz.ntmps51
  go_wp2_with fail
  refine (idOk_any ⟨a0, a1⟩ _ _ (Sid0.out.below (by repeat' (first | with_reducible exact Below.refl _ _ | with_reducible exact BW.out | with_reducible refine Below.setCell ?_ ?_ _ | with_reducible refine Below.alloc ?_ ?_ _ | with_reducible refine Below.drew ?_ | (simp; done) | (simp; omega) | omega)))).mono ?_; rintro e v1 ⟨rfl, hb⟩
  have B0 := Lib.hid (Blk.below (blk_new _ _ _) hb)
  have BW := Lib.hid (show Below w.heap.size w v1 from Below.trans (by repeat' (first | with_reducible exact Below.refl _ _ | with_reducible exact BW.out | with_reducible refine Below.setCell ?_ ?_ _ | with_reducible refine Below.alloc ?_ ?_ _ | with_reducible refine Below.drew ?_ | (simp; done) | (simp; omega) | omega)) (hb.mono (by first | (simp; done) | (simp; omega) | omega))); clear hb
  have hs0_0 : World.cell? v1 ⟨w.heap.size, 0, none⟩ = some (.int .i64 a0) := blk_cell0 (L := [.int .i64 a0, .int .i64 a1, .int .i64 a2, .int .i64 a3, .int .i64 a4, .int .i64 a5, .int .i64 a6, .int .i64 a7, .string (bs a8), .string (bs a9), .string (bs a10), .int .i64 a11, .slice Aa0 a12.length ka0, .int .i64 a13, .slice Aa1 a14.length ka1, .bool a15]) B0.out 0 rfl
  have hs0_1 : World.cell? v1 ⟨w.heap.size, 1, none⟩ = some (.int .i64 a1) := blk_cell0 (L := [.int .i64 a0, .int .i64 a1, .int .i64 a2, .int .i64 a3, .int .i64 a4, .int .i64 a5, .int .i64 a6, .int .i64 a7, .string (bs a8), .string (bs a9), .string (bs a10), .int .i64 a11, .slice Aa0 a12.length ka0, .int .i64 a13, .slice Aa1 a14.length ka1, .bool a15]) B0.out 1 rfl
  have hs0_2 : World.cell? v1 ⟨w.heap.size, 2, none⟩ = some (.int .i64 a2) := blk_cell0 (L := [.int .i64 a0, .int .i64 a1, .int .i64 a2, .int .i64 a3, .int .i64 a4, .int .i64 a5, .int .i64 a6, .int .i64 a7, .string (bs a8), .string (bs a9), .string (bs a10), .int .i64 a11, .slice Aa0 a12.length ka0, .int .i64 a13, .slice Aa1 a14.length ka1, .bool a15]) B0.out 2 rfl
  have hs0_3 : World.cell? v1 ⟨w.heap.size, 3, none⟩ = some (.int .i64 a3) := blk_cell0 (L := [.int .i64 a0, .int .i64 a1, .int .i64 a2, .int .i64 a3, .int .i64 a4, .int .i64 a5, .int .i64 a6, .int .i64 a7, .string (bs a8), .string (bs a9), .string (bs a10), .int .i64 a11, .slice Aa0 a12.length ka0, .int .i64 a13, .slice Aa1 a14.length ka1, .bool a15]) B0.out 3 rfl
  have hs0_4 : World.cell? v1 ⟨w.heap.size, 4, none⟩ = some (.int .i64 a4) := blk_cell0 (L := [.int .i64 a0, .int .i64 a1, .int .i64 a2, .int .i64 a3, .int .i64 a4, .int .i64 a5, .int .i64 a6, .int .i64 a7, .string (bs a8), .string (bs a9), .string (bs a10), .int .i64 a11, .slice Aa0 a12.length ka0, .int .i64 a13, .slice Aa1 a14.length ka1, .bool a15]) B0.out 4 rfl
  have hs0_5 : World.cell? v1 ⟨w.heap.size, 5, none⟩ = some (.int .i64 a5) := blk_cell0 (L := [.int .i64 a0, .int .i64 a1, .int .i64 a2, .int .i64 a3, .int .i64 a4, .int .i64 a5, .int .i64 a6, .int .i64 a7, .string (bs a8), .string (bs a9), .string (bs a10), .int .i64 a11, .slice Aa0 a12.length ka0, .int .i64 a13, .slice Aa1 a14.length ka1, .bool a15]) B0.out 5 rfl
  have hs0_6 : World.cell? v1 ⟨w.heap.size, 6, none⟩ = some (.int .i64 a6) := blk_cell0 (L := [.int .i64 a0, .int .i64 a1, .int .i64 a2, .int .i64 a3, .int .i64 a4, .int .i64 a5, .int .i64 a6, .int .i64 a7, .string (bs a8), .string (bs a9), .string (bs a10), .int .i64 a11, .slice Aa0 a12.length ka0, .int .i64 a13, .slice Aa1 a14.length ka1, .bool a15]) B0.out 6 rfl
  have hs0_7 : World.cell? v1 ⟨w.heap.size, 7, none⟩ = some (.int .i64 a7) := blk_cell0 (L := [.int .i64 a0, .int .i64 a1, .int .i64 a2, .int .i64 a3, .int .i64 a4, .int .i64 a5, .int .i64 a6, .int .i64 a7, .string (bs a8), .string (bs a9), .string (bs a10), .int .i64 a11, .slice Aa0 a12.length ka0, .int .i64 a13, .slice Aa1 a14.length ka1, .bool a15]) B0.out 7 rfl
  have hs0_8 : World.cell? v1 ⟨w.heap.size, 8, none⟩ = some (.string (bs a8)) := blk_cell0 (L := [.int .i64 a0, .int .i64 a1, .int .i64 a2, .int .i64 a3, .int .i64 a4, .int .i64 a5, .int .i64 a6, .int .i64 a7, .string (bs a8), .string (bs a9), .string (bs a10), .int .i64 a11, .slice Aa0 a12.length ka0, .int .i64 a13, .slice Aa1 a14.length ka1, .bool a15]) B0.out 8 rfl
  have hs0_9 : World.cell? v1 ⟨w.heap.size, 9, none⟩ = some (.string (bs a9)) := blk_cell0 (L := [.int .i64 a0, .int .i64 a1, .int .i64 a2, .int .i64 a3, .int .i64 a4, .int .i64 a5, .int .i64 a6, .int .i64 a7, .string (bs a8), .string (bs a9), .string (bs a10), .int .i64 a11, .slice Aa0 a12.length ka0, .int .i64 a13, .slice Aa1 a14.length ka1, .bool a15]) B0.out 9 rfl
  have hs0_10 : World.cell? v1 ⟨w.heap.size, 10, none⟩ = some (.string (bs a10)) := blk_cell0 (L := [.int .i64 a0, .int .i64 a1, .int .i64 a2, .int .i64 a3, .int .i64 a4, .int .i64 a5, .int .i64 a6, .int .i64 a7, .string (bs a8), .string (bs a9), .string (bs a10), .int .i64 a11, .slice Aa0 a12.length ka0, .int .i64 a13, .slice Aa1 a14.length ka1, .bool a15]) B0.out 10 rfl
  have hs0_11 : World.cell? v1 ⟨w.heap.size, 11, none⟩ = some (.int .i64 a11) := blk_cell0 (L := [.int .i64 a0, .int .i64 a1, .int .i64 a2, .int .i64 a3, .int .i64 a4, .int .i64 a5, .int .i64 a6, .int .i64 a7, .string (bs a8), .string (bs a9), .string (bs a10), .int .i64 a11, .slice Aa0 a12.length ka0, .int .i64 a13, .slice Aa1 a14.length ka1, .bool a15]) B0.out 11 rfl
  have hs0_12 : World.cell? v1 ⟨w.heap.size, 12, none⟩ = some (.slice Aa0 a12.length ka0) := blk_cell0 (L := [.int .i64 a0, .int .i64 a1, .int .i64 a2, .int .i64 a3, .int .i64 a4, .int .i64 a5, .int .i64 a6, .int .i64 a7, .string (bs a8), .string (bs a9), .string (bs a10), .int .i64 a11, .slice Aa0 a12.length ka0, .int .i64 a13, .slice Aa1 a14.length ka1, .bool a15]) B0.out 12 rfl
  have hs0_13 : World.cell? v1 ⟨w.heap.size, 13, none⟩ = some (.int .i64 a13) := blk_cell0 (L := [.int .i64 a0, .int .i64 a1, .int .i64 a2, .int .i64 a3, .int .i64 a4, .int .i64 a5, .int .i64 a6, .int .i64 a7, .string (bs a8), .string (bs a9), .string (bs a10), .int .i64 a11, .slice Aa0 a12.length ka0, .int .i64 a13, .slice Aa1 a14.length ka1, .bool a15]) B0.out 13 rfl
  have hs0_14 : World.cell? v1 ⟨w.heap.size, 14, none⟩ = some (.slice Aa1 a14.length ka1) := blk_cell0 (L := [.int .i64 a0, .int .i64 a1, .int .i64 a2, .int .i64 a3, .int .i64 a4, .int .i64 a5, .int .i64 a6, .int .i64 a7, .string (bs a8), .string (bs a9), .string (bs a10), .int .i64 a11, .slice Aa0 a12.length ka0, .int .i64 a13, .slice Aa1 a14.length ka1, .bool a15]) B0.out 14 rfl
  have hs0_15 : World.cell? v1 ⟨w.heap.size, 15, none⟩ = some (.bool a15) := blk_cell0 (L := [.int .i64 a0, .int .i64 a1, .int .i64 a2, .int .i64 a3, .int .i64 a4, .int .i64 a5, .int .i64 a6, .int .i64 a7, .string (bs a8), .string (bs a9), .string (bs a10), .int .i64 a11, .slice Aa0 a12.length ka0, .int .i64 a13, .slice Aa1 a14.length ka1, .bool a15]) B0.out 15 rfl
  cases hb0 : idOkB ⟨a0, a1⟩
  case false =>
    go_wp2
    go_ret
    exact ⟨ret_eq (congrArg Value.bool (by rw [HR.out, hb0]; rfl)), BW.out⟩
  case true =>
    go_wp2_with fail
    refine (within_any _ _ _ _).mono ?_; rintro e w' ⟨rfl, rfl⟩
    cases hb1 : inB (-1) 600 a2
    case false =>
      go_wp2
      go_ret
      exact ⟨ret_eq (congrArg Value.bool (by rw [HR.out, hb0, hb1]; rfl)), BW.out⟩
    case true =>
      go_wp2_with fail
      refine (within_any _ _ _ _).mono ?_; rintro e w' ⟨rfl, rfl⟩
      cases hb2 : inB (-1) a2 a3
      case false =>
        go_wp2
        go_ret
        exact ⟨ret_eq (congrArg Value.bool (by rw [HR.out, hb0, hb1, hb2]; rfl)), BW.out⟩
      case true =>
        go_wp2_with fail
        refine (within_any _ _ _ _).mono ?_; rintro e w' ⟨rfl, rfl⟩
        cases hb3 : inB 0 3 a4
        case false =>
          go_wp2
          go_ret
          exact ⟨ret_eq (congrArg Value.bool (by rw [HR.out, hb0, hb1, hb2, hb3]; rfl)), BW.out⟩
        case true =>
          go_wp2_with fail
          refine (iCmdOk_any ⟨a5, a6, a7, a8, a9, a10, a11, a12⟩ _ _ Wcmd0 (Scmd0.out.below BW.out)).mono ?_; rintro e v2 ⟨rfl, hb⟩
          have X := Lib.hid (B0.out.below hb); clear B0
          have B0 := Lib.hid X.out; clear X
          have X := Lib.hid (show Below w.heap.size w v2 from BW.out.trans (hb.mono BW.out.size)); clear BW hb
          have BW := Lib.hid X.out; clear X
          clear hs0_0 hs0_1 hs0_2 hs0_3 hs0_4 hs0_5 hs0_6 hs0_7 hs0_8 hs0_9 hs0_10 hs0_11 hs0_12 hs0_13 hs0_14 hs0_15
          have hs0_0 : World.cell? v2 ⟨w.heap.size, 0, none⟩ = some (.int .i64 a0) := blk_cell0 (L := [.int .i64 a0, .int .i64 a1, .int .i64 a2, .int .i64 a3, .int .i64 a4, .int .i64 a5, .int .i64 a6, .int .i64 a7, .string (bs a8), .string (bs a9), .string (bs a10), .int .i64 a11, .slice Aa0 a12.length ka0, .int .i64 a13, .slice Aa1 a14.length ka1, .bool a15]) B0.out 0 rfl
          have hs0_1 : World.cell? v2 ⟨w.heap.size, 1, none⟩ = some (.int .i64 a1) := blk_cell0 (L := [.int .i64 a0, .int .i64 a1, .int .i64 a2, .int .i64 a3, .int .i64 a4, .int .i64 a5, .int .i64 a6, .int .i64 a7, .string (bs a8), .string (bs a9), .string (bs a10), .int .i64 a11, .slice Aa0 a12.length ka0, .int .i64 a13, .slice Aa1 a14.length ka1, .bool a15]) B0.out 1 rfl
          have hs0_2 : World.cell? v2 ⟨w.heap.size, 2, none⟩ = some (.int .i64 a2) := blk_cell0 (L := [.int .i64 a0, .int .i64 a1, .int .i64 a2, .int .i64 a3, .int .i64 a4, .int .i64 a5, .int .i64 a6, .int .i64 a7, .string (bs a8), .string (bs a9), .string (bs a10), .int .i64 a11, .slice Aa0 a12.length ka0, .int .i64 a13, .slice Aa1 a14.length ka1, .bool a15]) B0.out 2 rfl
          have hs0_3 : World.cell? v2 ⟨w.heap.size, 3, none⟩ = some (.int .i64 a3) := blk_cell0 (L := [.int .i64 a0, .int .i64 a1, .int .i64 a2, .int .i64 a3, .int .i64 a4, .int .i64 a5, .int .i64 a6, .int .i64 a7, .string (bs a8), .string (bs a9), .string (bs a10), .int .i64 a11, .slice Aa0 a12.length ka0, .int .i64 a13, .slice Aa1 a14.length ka1, .bool a15]) B0.out 3 rfl
          have hs0_4 : World.cell? v2 ⟨w.heap.size, 4, none⟩ = some (.int .i64 a4) := blk_cell0 (L := [.int .i64 a0, .int .i64 a1, .int .i64 a2, .int .i64 a3, .int .i64 a4, .int .i64 a5, .int .i64 a6, .int .i64 a7, .string (bs a8), .string (bs a9), .string (bs a10), .int .i64 a11, .slice Aa0 a12.length ka0, .int .i64 a13, .slice Aa1 a14.length ka1, .bool a15]) B0.out 4 rfl
          have hs0_5 : World.cell? v2 ⟨w.heap.size, 5, none⟩ = some (.int .i64 a5) := blk_cell0 (L := [.int .i64 a0, .int .i64 a1, .int .i64 a2, .int .i64 a3, .int .i64 a4, .int .i64 a5, .int .i64 a6, .int .i64 a7, .string (bs a8), .string (bs a9), .string (bs a10), .int .i64 a11, .slice Aa0 a12.length ka0, .int .i64 a13, .slice Aa1 a14.length ka1, .bool a15]) B0.out 5 rfl
          have hs0_6 : World.cell? v2 ⟨w.heap.size, 6, none⟩ = some (.int .i64 a6) := blk_cell0 (L := [.int .i64 a0, .int .i64 a1, .int .i64 a2, .int .i64 a3, .int .i64 a4, .int .i64 a5, .int .i64 a6, .int .i64 a7, .string (bs a8), .string (bs a9), .string (bs a10), .int .i64 a11, .slice Aa0 a12.length ka0, .int .i64 a13, .slice Aa1 a14.length ka1, .bool a15]) B0.out 6 rfl
          have hs0_7 : World.cell? v2 ⟨w.heap.size, 7, none⟩ = some (.int .i64 a7) := blk_cell0 (L := [.int .i64 a0, .int .i64 a1, .int .i64 a2, .int .i64 a3, .int .i64 a4, .int .i64 a5, .int .i64 a6, .int .i64 a7, .string (bs a8), .string (bs a9), .string (bs a10), .int .i64 a11, .slice Aa0 a12.length ka0, .int .i64 a13, .slice Aa1 a14.length ka1, .bool a15]) B0.out 7 rfl
          have hs0_8 : World.cell? v2 ⟨w.heap.size, 8, none⟩ = some (.string (bs a8)) := blk_cell0 (L := [.int .i64 a0, .int .i64 a1, .int .i64 a2, .int .i64 a3, .int .i64 a4, .int .i64 a5, .int .i64 a6, .int .i64 a7, .string (bs a8), .string (bs a9), .string (bs a10), .int .i64 a11, .slice Aa0 a12.length ka0, .int .i64 a13, .slice Aa1 a14.length ka1, .bool a15]) B0.out 8 rfl
          have hs0_9 : World.cell? v2 ⟨w.heap.size, 9, none⟩ = some (.string (bs a9)) := blk_cell0 (L := [.int .i64 a0, .int .i64 a1, .int .i64 a2, .int .i64 a3, .int .i64 a4, .int .i64 a5, .int .i64 a6, .int .i64 a7, .string (bs a8), .string (bs a9), .string (bs a10), .int .i64 a11, .slice Aa0 a12.length ka0, .int .i64 a13, .slice Aa1 a14.length ka1, .bool a15]) B0.out 9 rfl
          have hs0_10 : World.cell? v2 ⟨w.heap.size, 10, none⟩ = some (.string (bs a10)) := blk_cell0 (L := [.int .i64 a0, .int .i64 a1, .int .i64 a2, .int .i64 a3, .int .i64 a4, .int .i64 a5, .int .i64 a6, .int .i64 a7, .string (bs a8), .string (bs a9), .string (bs a10), .int .i64 a11, .slice Aa0 a12.length ka0, .int .i64 a13, .slice Aa1 a14.length ka1, .bool a15]) B0.out 10 rfl
          have hs0_11 : World.cell? v2 ⟨w.heap.size, 11, none⟩ = some (.int .i64 a11) := blk_cell0 (L := [.int .i64 a0, .int .i64 a1, .int .i64 a2, .int .i64 a3, .int .i64 a4, .int .i64 a5, .int .i64 a6, .int .i64 a7, .string (bs a8), .string (bs a9), .string (bs a10), .int .i64 a11, .slice Aa0 a12.length ka0, .int .i64 a13, .slice Aa1 a14.length ka1, .bool a15]) B0.out 11 rfl
          have hs0_12 : World.cell? v2 ⟨w.heap.size, 12, none⟩ = some (.slice Aa0 a12.length ka0) := blk_cell0 (L := [.int .i64 a0, .int .i64 a1, .int .i64 a2, .int .i64 a3, .int .i64 a4, .int .i64 a5, .int .i64 a6, .int .i64 a7, .string (bs a8), .string (bs a9), .string (bs a10), .int .i64 a11, .slice Aa0 a12.length ka0, .int .i64 a13, .slice Aa1 a14.length ka1, .bool a15]) B0.out 12 rfl
          have hs0_13 : World.cell? v2 ⟨w.heap.size, 13, none⟩ = some (.int .i64 a13) := blk_cell0 (L := [.int .i64 a0, .int .i64 a1, .int .i64 a2, .int .i64 a3, .int .i64 a4, .int .i64 a5, .int .i64 a6, .int .i64 a7, .string (bs a8), .string (bs a9), .string (bs a10), .int .i64 a11, .slice Aa0 a12.length ka0, .int .i64 a13, .slice Aa1 a14.length ka1, .bool a15]) B0.out 13 rfl
          have hs0_14 : World.cell? v2 ⟨w.heap.size, 14, none⟩ = some (.slice Aa1 a14.length ka1) := blk_cell0 (L := [.int .i64 a0, .int .i64 a1, .int .i64 a2, .int .i64 a3, .int .i64 a4, .int .i64 a5, .int .i64 a6, .int .i64 a7, .string (bs a8), .string (bs a9), .string (bs a10), .int .i64 a11, .slice Aa0 a12.length ka0, .int .i64 a13, .slice Aa1 a14.length ka1, .bool a15]) B0.out 14 rfl
          have hs0_15 : World.cell? v2 ⟨w.heap.size, 15, none⟩ = some (.bool a15) := blk_cell0 (L := [.int .i64 a0, .int .i64 a1, .int .i64 a2, .int .i64 a3, .int .i64 a4, .int .i64 a5, .int .i64 a6, .int .i64 a7, .string (bs a8), .string (bs a9), .string (bs a10), .int .i64 a11, .slice Aa0 a12.length ka0, .int .i64 a13, .slice Aa1 a14.length ka1, .bool a15]) B0.out 15 rfl
          cases hb4 : cmdOkB ⟨a5, a6, a7, a8, a9, a10, a11, a12⟩
          case false =>
            go_wp2
            go_ret
            exact ⟨ret_eq (congrArg Value.bool (by rw [HR.out, hb0, hb1, hb2, hb3, hb4]; rfl)), BW.out⟩
          case true =>
            go_wp2_with fail
            refine (within_any _ _ _ _).mono ?_; rintro e w' ⟨rfl, rfl⟩
            cases hb5 : inB 0 60 a13
            case false =>
              go_wp2
              go_ret
              exact ⟨ret_eq (congrArg Value.bool (by rw [HR.out, hb0, hb1, hb2, hb3, hb4, hb5]; rfl)), BW.out⟩
            case true =>
              go_wp2_with fail
              refine (iIdsOk_any a14 _ _ _ _ rfl Wa14 (Sa14.out.below BW.out)).mono ?_; rintro e v3 ⟨rfl, hb⟩
              have X := Lib.hid (B0.out.below hb); clear B0
              have B0 := Lib.hid X.out; clear X
              have X := Lib.hid (show Below w.heap.size w v3 from BW.out.trans (hb.mono BW.out.size)); clear BW hb
              have BW := Lib.hid X.out; clear X
              clear hs0_0 hs0_1 hs0_2 hs0_3 hs0_4 hs0_5 hs0_6 hs0_7 hs0_8 hs0_9 hs0_10 hs0_11 hs0_12 hs0_13 hs0_14 hs0_15
              have hs0_0 : World.cell? v3 ⟨w.heap.size, 0, none⟩ = some (.int .i64 a0) := blk_cell0 (L := [.int .i64 a0, .int .i64 a1, .int .i64 a2, .int .i64 a3, .int .i64 a4, .int .i64 a5, .int .i64 a6, .int .i64 a7, .string (bs a8), .string (bs a9), .string (bs a10), .int .i64 a11, .slice Aa0 a12.length ka0, .int .i64 a13, .slice Aa1 a14.length ka1, .bool a15]) B0.out 0 rfl
              have hs0_1 : World.cell? v3 ⟨w.heap.size, 1, none⟩ = some (.int .i64 a1) := blk_cell0 (L := [.int .i64 a0, .int .i64 a1, .int .i64 a2, .int .i64 a3, .int .i64 a4, .int .i64 a5, .int .i64 a6, .int .i64 a7, .string (bs a8), .string (bs a9), .string (bs a10), .int .i64 a11, .slice Aa0 a12.length ka0, .int .i64 a13, .slice Aa1 a14.length ka1, .bool a15]) B0.out 1 rfl
              have hs0_2 : World.cell? v3 ⟨w.heap.size, 2, none⟩ = some (.int .i64 a2) := blk_cell0 (L := [.int .i64 a0, .int .i64 a1, .int .i64 a2, .int .i64 a3, .int .i64 a4, .int .i64 a5, .int .i64 a6, .int .i64 a7, .string (bs a8), .string (bs a9), .string (bs a10), .int .i64 a11, .slice Aa0 a12.length ka0, .int .i64 a13, .slice Aa1 a14.length ka1, .bool a15]) B0.out 2 rfl
              have hs0_3 : World.cell? v3 ⟨w.heap.size, 3, none⟩ = some (.int .i64 a3) := blk_cell0 (L := [.int .i64 a0, .int .i64 a1, .int .i64 a2, .int .i64 a3, .int .i64 a4, .int .i64 a5, .int .i64 a6, .int .i64 a7, .string (bs a8), .string (bs a9), .string (bs a10), .int .i64 a11, .slice Aa0 a12.length ka0, .int .i64 a13, .slice Aa1 a14.length ka1, .bool a15]) B0.out 3 rfl
              have hs0_4 : World.cell? v3 ⟨w.heap.size, 4, none⟩ = some (.int .i64 a4) := blk_cell0 (L := [.int .i64 a0, .int .i64 a1, .int .i64 a2, .int .i64 a3, .int .i64 a4, .int .i64 a5, .int .i64 a6, .int .i64 a7, .string (bs a8), .string (bs a9), .string (bs a10), .int .i64 a11, .slice Aa0 a12.length ka0, .int .i64 a13, .slice Aa1 a14.length ka1, .bool a15]) B0.out 4 rfl
              have hs0_5 : World.cell? v3 ⟨w.heap.size, 5, none⟩ = some (.int .i64 a5) := blk_cell0 (L := [.int .i64 a0, .int .i64 a1, .int .i64 a2, .int .i64 a3, .int .i64 a4, .int .i64 a5, .int .i64 a6, .int .i64 a7, .string (bs a8), .string (bs a9), .string (bs a10), .int .i64 a11, .slice Aa0 a12.length ka0, .int .i64 a13, .slice Aa1 a14.length ka1, .bool a15]) B0.out 5 rfl
              have hs0_6 : World.cell? v3 ⟨w.heap.size, 6, none⟩ = some (.int .i64 a6) := blk_cell0 (L := [.int .i64 a0, .int .i64 a1, .int .i64 a2, .int .i64 a3, .int .i64 a4, .int .i64 a5, .int .i64 a6, .int .i64 a7, .string (bs a8), .string (bs a9), .string (bs a10), .int .i64 a11, .slice Aa0 a12.length ka0, .int .i64 a13, .slice Aa1 a14.length ka1, .bool a15]) B0.out 6 rfl
              have hs0_7 : World.cell? v3 ⟨w.heap.size, 7, none⟩ = some (.int .i64 a7) := blk_cell0 (L := [.int .i64 a0, .int .i64 a1, .int .i64 a2, .int .i64 a3, .int .i64 a4, .int .i64 a5, .int .i64 a6, .int .i64 a7, .string (bs a8), .string (bs a9), .string (bs a10), .int .i64 a11, .slice Aa0 a12.length ka0, .int .i64 a13, .slice Aa1 a14.length ka1, .bool a15]) B0.out 7 rfl
              have hs0_8 : World.cell? v3 ⟨w.heap.size, 8, none⟩ = some (.string (bs a8)) := blk_cell0 (L := [.int .i64 a0, .int .i64 a1, .int .i64 a2, .int .i64 a3, .int .i64 a4, .int .i64 a5, .int .i64 a6, .int .i64 a7, .string (bs a8), .string (bs a9), .string (bs a10), .int .i64 a11, .slice Aa0 a12.length ka0, .int .i64 a13, .slice Aa1 a14.length ka1, .bool a15]) B0.out 8 rfl
              have hs0_9 : World.cell? v3 ⟨w.heap.size, 9, none⟩ = some (.string (bs a9)) := blk_cell0 (L := [.int .i64 a0, .int .i64 a1, .int .i64 a2, .int .i64 a3, .int .i64 a4, .int .i64 a5, .int .i64 a6, .int .i64 a7, .string (bs a8), .string (bs a9), .string (bs a10), .int .i64 a11, .slice Aa0 a12.length ka0, .int .i64 a13, .slice Aa1 a14.length ka1, .bool a15]) B0.out 9 rfl
              have hs0_10 : World.cell? v3 ⟨w.heap.size, 10, none⟩ = some (.string (bs a10)) := blk_cell0 (L := [.int .i64 a0, .int .i64 a1, .int .i64 a2, .int .i64 a3, .int .i64 a4, .int .i64 a5, .int .i64 a6, .int .i64 a7, .string (bs a8), .string (bs a9), .string (bs a10), .int .i64 a11, .slice Aa0 a12.length ka0, .int .i64 a13, .slice Aa1 a14.length ka1, .bool a15]) B0.out 10 rfl
              have hs0_11 : World.cell? v3 ⟨w.heap.size, 11, none⟩ = some (.int .i64 a11) := blk_cell0 (L := [.int .i64 a0, .int .i64 a1, .int .i64 a2, .int .i64 a3, .int .i64 a4, .int .i64 a5, .int .i64 a6, .int .i64 a7, .string (bs a8), .string (bs a9), .string (bs a10), .int .i64 a11, .slice Aa0 a12.length ka0, .int .i64 a13, .slice Aa1 a14.length ka1, .bool a15]) B0.out 11 rfl
              have hs0_12 : World.cell? v3 ⟨w.heap.size, 12, none⟩ = some (.slice Aa0 a12.length ka0) := blk_cell0 (L := [.int .i64 a0, .int .i64 a1, .int .i64 a2, .int .i64 a3, .int .i64 a4, .int .i64 a5, .int .i64 a6, .int .i64 a7, .string (bs a8), .string (bs a9), .string (bs a10), .int .i64 a11, .slice Aa0 a12.length ka0, .int .i64 a13, .slice Aa1 a14.length ka1, .bool a15]) B0.out 12 rfl
              have hs0_13 : World.cell? v3 ⟨w.heap.size, 13, none⟩ = some (.int .i64 a13) := blk_cell0 (L := [.int .i64 a0, .int .i64 a1, .int .i64 a2, .int .i64 a3, .int .i64 a4, .int .i64 a5, .int .i64 a6, .int .i64 a7, .string (bs a8), .string (bs a9), .string (bs a10), .int .i64 a11, .slice Aa0 a12.length ka0, .int .i64 a13, .slice Aa1 a14.length ka1, .bool a15]) B0.out 13 rfl
              have hs0_14 : World.cell? v3 ⟨w.heap.size, 14, none⟩ = some (.slice Aa1 a14.length ka1) := blk_cell0 (L := [.int .i64 a0, .int .i64 a1, .int .i64 a2, .int .i64 a3, .int .i64 a4, .int .i64 a5, .int .i64 a6, .int .i64 a7, .string (bs a8), .string (bs a9), .string (bs a10), .int .i64 a11, .slice Aa0 a12.length ka0, .int .i64 a13, .slice Aa1 a14.length ka1, .bool a15]) B0.out 14 rfl
              have hs0_15 : World.cell? v3 ⟨w.heap.size, 15, none⟩ = some (.bool a15) := blk_cell0 (L := [.int .i64 a0, .int .i64 a1, .int .i64 a2, .int .i64 a3, .int .i64 a4, .int .i64 a5, .int .i64 a6, .int .i64 a7, .string (bs a8), .string (bs a9), .string (bs a10), .int .i64 a11, .slice Aa0 a12.length ka0, .int .i64 a13, .slice Aa1 a14.length ka1, .bool a15]) B0.out 15 rfl
              cases hb6 : idsOkB a14
              case false =>
                go_wp2
                go_ret
                exact ⟨ret_eq (congrArg Value.bool (by rw [HR.out, hb0, hb1, hb2, hb3, hb4, hb5, hb6]; rfl)), BW.out⟩
              case true =>
                go_wp2_with fail
                refine (containsId_any a14 ⟨a0, a1⟩ _ _ _ _ _ rfl (by omega) (Sa14.out.below BW.out) (Sid0.out.below BW.out)).mono ?_; rintro e v4 ⟨rfl, hb⟩
                have X := Lib.hid (B0.out.below hb); clear B0
                have B0 := Lib.hid X.out; clear X
                have X := Lib.hid (show Below w.heap.size w v4 from BW.out.trans (hb.mono BW.out.size)); clear BW hb
                have BW := Lib.hid X.out; clear X
                clear hs0_0 hs0_1 hs0_2 hs0_3 hs0_4 hs0_5 hs0_6 hs0_7 hs0_8 hs0_9 hs0_10 hs0_11 hs0_12 hs0_13 hs0_14 hs0_15
                have hs0_0 : World.cell? v4 ⟨w.heap.size, 0, none⟩ = some (.int .i64 a0) := blk_cell0 (L := [.int .i64 a0, .int .i64 a1, .int .i64 a2, .int .i64 a3, .int .i64 a4, .int .i64 a5, .int .i64 a6, .int .i64 a7, .string (bs a8), .string (bs a9), .string (bs a10), .int .i64 a11, .slice Aa0 a12.length ka0, .int .i64 a13, .slice Aa1 a14.length ka1, .bool a15]) B0.out 0 rfl
                have hs0_1 : World.cell? v4 ⟨w.heap.size, 1, none⟩ = some (.int .i64 a1) := blk_cell0 (L := [.int .i64 a0, .int .i64 a1, .int .i64 a2, .int .i64 a3, .int .i64 a4, .int .i64 a5, .int .i64 a6, .int .i64 a7, .string (bs a8), .string (bs a9), .string (bs a10), .int .i64 a11, .slice Aa0 a12.length ka0, .int .i64 a13, .slice Aa1 a14.length ka1, .bool a15]) B0.out 1 rfl
                have hs0_2 : World.cell? v4 ⟨w.heap.size, 2, none⟩ = some (.int .i64 a2) := blk_cell0 (L := [.int .i64 a0, .int .i64 a1, .int .i64 a2, .int .i64 a3, .int .i64 a4, .int .i64 a5, .int .i64 a6, .int .i64 a7, .string (bs a8), .string (bs a9), .string (bs a10), .int .i64 a11, .slice Aa0 a12.length ka0, .int .i64 a13, .slice Aa1 a14.length ka1, .bool a15]) B0.out 2 rfl
                have hs0_3 : World.cell? v4 ⟨w.heap.size, 3, none⟩ = some (.int .i64 a3) := blk_cell0 (L := [.int .i64 a0, .int .i64 a1, .int .i64 a2, .int .i64 a3, .int .i64 a4, .int .i64 a5, .int .i64 a6, .int .i64 a7, .string (bs a8), .string (bs a9), .string (bs a10), .int .i64 a11, .slice Aa0 a12.length ka0, .int .i64 a13, .slice Aa1 a14.length ka1, .bool a15]) B0.out 3 rfl
                have hs0_4 : World.cell? v4 ⟨w.heap.size, 4, none⟩ = some (.int .i64 a4) := blk_cell0 (L := [.int .i64 a0, .int .i64 a1, .int .i64 a2, .int .i64 a3, .int .i64 a4, .int .i64 a5, .int .i64 a6, .int .i64 a7, .string (bs a8), .string (bs a9), .string (bs a10), .int .i64 a11, .slice Aa0 a12.length ka0, .int .i64 a13, .slice Aa1 a14.length ka1, .bool a15]) B0.out 4 rfl
                have hs0_5 : World.cell? v4 ⟨w.heap.size, 5, none⟩ = some (.int .i64 a5) := blk_cell0 (L := [.int .i64 a0, .int .i64 a1, .int .i64 a2, .int .i64 a3, .int .i64 a4, .int .i64 a5, .int .i64 a6, .int .i64 a7, .string (bs a8), .string (bs a9), .string (bs a10), .int .i64 a11, .slice Aa0 a12.length ka0, .int .i64 a13, .slice Aa1 a14.length ka1, .bool a15]) B0.out 5 rfl
                have hs0_6 : World.cell? v4 ⟨w.heap.size, 6, none⟩ = some (.int .i64 a6) := blk_cell0 (L := [.int .i64 a0, .int .i64 a1, .int .i64 a2, .int .i64 a3, .int .i64 a4, .int .i64 a5, .int .i64 a6, .int .i64 a7, .string (bs a8), .string (bs a9), .string (bs a10), .int .i64 a11, .slice Aa0 a12.length ka0, .int .i64 a13, .slice Aa1 a14.length ka1, .bool a15]) B0.out 6 rfl
                have hs0_7 : World.cell? v4 ⟨w.heap.size, 7, none⟩ = some (.int .i64 a7) := blk_cell0 (L := [.int .i64 a0, .int .i64 a1, .int .i64 a2, .int .i64 a3, .int .i64 a4, .int .i64 a5, .int .i64 a6, .int .i64 a7, .string (bs a8), .string (bs a9), .string (bs a10), .int .i64 a11, .slice Aa0 a12.length ka0, .int .i64 a13, .slice Aa1 a14.length ka1, .bool a15]) B0.out 7 rfl
                have hs0_8 : World.cell? v4 ⟨w.heap.size, 8, none⟩ = some (.string (bs a8)) := blk_cell0 (L := [.int .i64 a0, .int .i64 a1, .int .i64 a2, .int .i64 a3, .int .i64 a4, .int .i64 a5, .int .i64 a6, .int .i64 a7, .string (bs a8), .string (bs a9), .string (bs a10), .int .i64 a11, .slice Aa0 a12.length ka0, .int .i64 a13, .slice Aa1 a14.length ka1, .bool a15]) B0.out 8 rfl
                have hs0_9 : World.cell? v4 ⟨w.heap.size, 9, none⟩ = some (.string (bs a9)) := blk_cell0 (L := [.int .i64 a0, .int .i64 a1, .int .i64 a2, .int .i64 a3, .int .i64 a4, .int .i64 a5, .int .i64 a6, .int .i64 a7, .string (bs a8), .string (bs a9), .string (bs a10), .int .i64 a11, .slice Aa0 a12.length ka0, .int .i64 a13, .slice Aa1 a14.length ka1, .bool a15]) B0.out 9 rfl
                have hs0_10 : World.cell? v4 ⟨w.heap.size, 10, none⟩ = some (.string (bs a10)) := blk_cell0 (L := [.int .i64 a0, .int .i64 a1, .int .i64 a2, .int .i64 a3, .int .i64 a4, .int .i64 a5, .int .i64 a6, .int .i64 a7, .string (bs a8), .string (bs a9), .string (bs a10), .int .i64 a11, .slice Aa0 a12.length ka0, .int .i64 a13, .slice Aa1 a14.length ka1, .bool a15]) B0.out 10 rfl
                have hs0_11 : World.cell? v4 ⟨w.heap.size, 11, none⟩ = some (.int .i64 a11) := blk_cell0 (L := [.int .i64 a0, .int .i64 a1, .int .i64 a2, .int .i64 a3, .int .i64 a4, .int .i64 a5, .int .i64 a6, .int .i64 a7, .string (bs a8), .string (bs a9), .string (bs a10), .int .i64 a11, .slice Aa0 a12.length ka0, .int .i64 a13, .slice Aa1 a14.length ka1, .bool a15]) B0.out 11 rfl
                have hs0_12 : World.cell? v4 ⟨w.heap.size, 12, none⟩ = some (.slice Aa0 a12.length ka0) := blk_cell0 (L := [.int .i64 a0, .int .i64 a1, .int .i64 a2, .int .i64 a3, .int .i64 a4, .int .i64 a5, .int .i64 a6, .int .i64 a7, .string (bs a8), .string (bs a9), .string (bs a10), .int .i64 a11, .slice Aa0 a12.length ka0, .int .i64 a13, .slice Aa1 a14.length ka1, .bool a15]) B0.out 12 rfl
                have hs0_13 : World.cell? v4 ⟨w.heap.size, 13, none⟩ = some (.int .i64 a13) := blk_cell0 (L := [.int .i64 a0, .int .i64 a1, .int .i64 a2, .int .i64 a3, .int .i64 a4, .int .i64 a5, .int .i64 a6, .int .i64 a7, .string (bs a8), .string (bs a9), .string (bs a10), .int .i64 a11, .slice Aa0 a12.length ka0, .int .i64 a13, .slice Aa1 a14.length ka1, .bool a15]) B0.out 13 rfl
                have hs0_14 : World.cell? v4 ⟨w.heap.size, 14, none⟩ = some (.slice Aa1 a14.length ka1) := blk_cell0 (L := [.int .i64 a0, .int .i64 a1, .int .i64 a2, .int .i64 a3, .int .i64 a4, .int .i64 a5, .int .i64 a6, .int .i64 a7, .string (bs a8), .string (bs a9), .string (bs a10), .int .i64 a11, .slice Aa0 a12.length ka0, .int .i64 a13, .slice Aa1 a14.length ka1, .bool a15]) B0.out 14 rfl
                have hs0_15 : World.cell? v4 ⟨w.heap.size, 15, none⟩ = some (.bool a15) := blk_cell0 (L := [.int .i64 a0, .int .i64 a1, .int .i64 a2, .int .i64 a3, .int .i64 a4, .int .i64 a5, .int .i64 a6, .int .i64 a7, .string (bs a8), .string (bs a9), .string (bs a10), .int .i64 a11, .slice Aa0 a12.length ka0, .int .i64 a13, .slice Aa1 a14.length ka1, .bool a15]) B0.out 15 rfl
                cases hb7 : hasB a14 ⟨a0, a1⟩
                case true =>
                  go_wp2
                  go_ret
                  exact ⟨ret_eq (congrArg Value.bool (by rw [HR.out, hb0, hb1, hb2, hb3, hb4, hb5, hb6, hb7]; rfl)), BW.out⟩
                case false =>
                  go_wp2
                  all_goals (go_ret; exact ⟨ret_eq (congrArg Value.bool (by rw [HR.out, hb0, hb1, hb2, hb3, hb4, hb5, hb6, hb7]; rw [Bool.eq_iff_iff]; first | (simp [*]; done) | (simp_all; done))), BW.out⟩)

end Go.Proofs.YtonaacdefidomaaGreat
namespace Go.Proofs.YtonaacdefidomaaGreat
open Go.RowKit

set_option maxRecDepth 100000 in
set_option maxHeartbeats 8000000 in
theorem sInstOk_any (x : InstD) (cs0 : List Value) (w : World) (hwt0 : x.c.wt ≤ 1048576) (h0 : Rep anyB w x.c cs0) :
    Calls Tryz.prog 28 #[.agg cs0.toArray] w fun e w' => e = .returned (.bool (instOkB x)) ∧ Below w.heap.size w w' := by
  have hw0 : x.c.wt = (x.cmd.set.length + (x.cmd.name.length + (x.cmd.tag.length + (x.cmd.chunks.length + (cat strC x.cmd.chunks).wt + (x.deps.length + (cat IdD.c x.deps).wt + 0))))) := rfl
  obtain ⟨Aa0, ka0, Aa1, ka1, rfl, sa0, sa1⟩ := InstD.open h0
  obtain ⟨⟨a0, a1⟩, a2, a3, a4, ⟨a5, a6, a7, a8, a9, a10, a11, a12⟩, a13, a14, a15⟩ := x
  simp only [] at sa0 sa1 hw0 ⊢
  have Wa8 : a8.length ≤ 1048576 := by omega
  have Wa9 : a9.length ≤ 1048576 := by omega
  have Wa10 : a10.length ≤ 1048576 := by omega
  have Sa12 := Lib.hid sa0; clear sa0
  have Wa12 : a12.length + (cat strC a12).wt ≤ 1048576 := by omega
  have Sa14 := Lib.hid sa1; clear sa1
  have Wa14 : a14.length + (cat IdD.c a14).wt ≤ 1048576 := by omega
  have Sid0 := Lib.hid (show Rep anyB w (IdD.c ⟨a0, a1⟩) [.int .i64 a0, .int .i64 a1] from IdD.shut)
  have Wcmd0 : (CmdD.c ⟨a5, a6, a7, a8, a9, a10, a11, a12⟩).wt ≤ 1048576 := by have e0 : (CmdD.c ⟨a5, a6, a7, a8, a9, a10, a11, a12⟩).wt = (a8.length + (a9.length + (a10.length + (a12.length + (cat strC a12).wt + 0)))) := rfl; omega
  have Scmd0 := Lib.hid (show Rep anyB w (CmdD.c ⟨a5, a6, a7, a8, a9, a10, a11, a12⟩) [.int .i64 a5, .int .i64 a6, .int .i64 a7, .string (bs a8), .string (bs a9), .string (bs a10), .int .i64 a11, .slice Aa0 a12.length ka0] from CmdD.shut Sa12.out)
  clear h0 hwt0 hw0
  obtain ⟨R, hR⟩ : ∃ R, R = instOkB (⟨⟨a0, a1⟩, a2, a3, a4, ⟨a5, a6, a7, a8, a9, a10, a11, a12⟩, a13, a14, a15⟩ : InstD) := ⟨_, rfl⟩
  rw [← hR]
  rw [instOkB] at hR
  simp only [] at hR
  have HR := Lib.hid hR; clear hR
  go_enter Tryz.func28, Tryz.ntmps28
  go_wp2_with fail
  refine (l8Id_any ⟨a0, a1⟩ _ _ (Sid0.out.below (by repeat' (first | with_reducible exact Below.refl _ _ | with_reducible exact BW.out | with_reducible refine Below.setCell ?_ ?_ _ | with_reducible refine Below.alloc ?_ ?_ _ | with_reducible refine Below.drew ?_ | (simp; done) | (simp; omega) | omega)))).mono ?_; rintro e v1 ⟨rfl, hb⟩
  have B0 := Lib.hid (Blk.below (blk_new _ _ _) hb)
  have BW := Lib.hid (show Below w.heap.size w v1 from Below.trans (by repeat' (first | with_reducible exact Below.refl _ _ | with_reducible exact BW.out | with_reducible refine Below.setCell ?_ ?_ _ | with_reducible refine Below.alloc ?_ ?_ _ | with_reducible refine Below.drew ?_ | (simp; done) | (simp; omega) | omega)) (hb.mono (by first | (simp; done) | (simp; omega) | omega))); clear hb
  have hs0_0 : World.cell? v1 ⟨w.heap.size, 0, none⟩ = some (.int .i64 a0) := blk_cell0 (L := [.int .i64 a0, .int .i64 a1, .int .i64 a2, .int .i64 a3, .int .i64 a4, .int .i64 a5, .int .i64 a6, .int .i64 a7, .string (bs a8), .string (bs a9), .string (bs a10), .int .i64 a11, .slice Aa0 a12.length ka0, .int .i64 a13, .slice Aa1 a14.length ka1, .bool a15]) B0.out 0 rfl
  have hs0_1 : World.cell? v1 ⟨w.heap.size, 1, none⟩ = some (.int .i64 a1) := blk_cell0 (L := [.int .i64 a0, .int .i64 a1, .int .i64 a2, .int .i64 a3, .int .i64 a4, .int .i64 a5, .int .i64 a6, .int .i64 a7, .string (bs a8), .string (bs a9), .string (bs a10), .int .i64 a11, .slice Aa0 a12.length ka0, .int .i64 a13, .slice Aa1 a14.length ka1, .bool a15]) B0.out 1 rfl
  have hs0_2 : World.cell? v1 ⟨w.heap.size, 2, none⟩ = some (.int .i64 a2) := blk_cell0 (L := [.int .i64 a0, .int .i64 a1, .int .i64 a2, .int .i64 a3, .int .i64 a4, .int .i64 a5, .int .i64 a6, .int .i64 a7, .string (bs a8), .string (bs a9), .string (bs a10), .int .i64 a11, .slice Aa0 a12.length ka0, .int .i64 a13, .slice Aa1 a14.length ka1, .bool a15]) B0.out 2 rfl
  have hs0_3 : World.cell? v1 ⟨w.heap.size, 3, none⟩ = some (.int .i64 a3) := blk_cell0 (L := [.int .i64 a0, .int .i64 a1, .int .i64 a2, .int .i64 a3, .int .i64 a4, .int .i64 a5, .int .i64 a6, .int .i64 a7, .string (bs a8), .string (bs a9), .string (bs a10), .int .i64 a11, .slice Aa0 a12.length ka0, .int .i64 a13, .slice Aa1 a14.length ka1, .bool a15]) B0.out 3 rfl
  have hs0_4 : World.cell? v1 ⟨w.heap.size, 4, none⟩ = some (.int .i64 a4) := blk_cell0 (L := [.int .i64 a0, .int .i64 a1, .int .i64 a2, .int .i64 a3, .int .i64 a4, .int .i64 a5, .int .i64 a6, .int .i64 a7, .string (bs a8), .string (bs a9), .string (bs a10), .int .i64 a11, .slice Aa0 a12.length ka0, .int .i64 a13, .slice Aa1 a14.length ka1, .bool a15]) B0.out 4 rfl
  have hs0_5 : World.cell? v1 ⟨w.heap.size, 5, none⟩ = some (.int .i64 a5) := blk_cell0 (L := [.int .i64 a0, .int .i64 a1, .int .i64 a2, .int .i64 a3, .int .i64 a4, .int .i64 a5, .int .i64 a6, .int .i64 a7, .string (bs a8), .string (bs a9), .string (bs a10), .int .i64 a11, .slice Aa0 a12.length ka0, .int .i64 a13, .slice Aa1 a14.length ka1, .bool a15]) B0.out 5 rfl
  have hs0_6 : World.cell? v1 ⟨w.heap.size, 6, none⟩ = some (.int .i64 a6) := blk_cell0 (L := [.int .i64 a0, .int .i64 a1, .int .i64 a2, .int .i64 a3, .int .i64 a4, .int .i64 a5, .int .i64 a6, .int .i64 a7, .string (bs a8), .string (bs a9), .string (bs a10), .int .i64 a11, .slice Aa0 a12.length ka0, .int .i64 a13, .slice Aa1 a14.length ka1, .bool a15]) B0.out 6 rfl
  have hs0_7 : World.cell? v1 ⟨w.heap.size, 7, none⟩ = some (.int .i64 a7) := blk_cell0 (L := [.int .i64 a0, .int .i64 a1, .int .i64 a2, .int .i64 a3, .int .i64 a4, .int .i64 a5, .int .i64 a6, .int .i64 a7, .string (bs a8), .string (bs a9), .string (bs a10), .int .i64 a11, .slice Aa0 a12.length ka0, .int .i64 a13, .slice Aa1 a14.length ka1, .bool a15]) B0.out 7 rfl
  have hs0_8 : World.cell? v1 ⟨w.heap.size, 8, none⟩ = some (.string (bs a8)) := blk_cell0 (L := [.int .i64 a0, .int .i64 a1, .int .i64 a2, .int .i64 a3, .int .i64 a4, .int .i64 a5, .int .i64 a6, .int .i64 a7, .string (bs a8), .string (bs a9), .string (bs a10), .int .i64 a11, .slice Aa0 a12.length ka0, .int .i64 a13, .slice Aa1 a14.length ka1, .bool a15]) B0.out 8 rfl
  have hs0_9 : World.cell? v1 ⟨w.heap.size, 9, none⟩ = some (.string (bs a9)) := blk_cell0 (L := [.int .i64 a0, .int .i64 a1, .int .i64 a2, .int .i64 a3, .int .i64 a4, .int .i64 a5, .int .i64 a6, .int .i64 a7, .string (bs a8), .string (bs a9), .string (bs a10), .int .i64 a11, .slice Aa0 a12.length ka0, .int .i64 a13, .slice Aa1 a14.length ka1, .bool a15]) B0.out 9 rfl
  have hs0_10 : World.cell? v1 ⟨w.heap.size, 10, none⟩ = some (.string (bs a10)) := blk_cell0 (L := [.int .i64 a0, .int .i64 a1, .int .i64 a2, .int .i64 a3, .int .i64 a4, .int .i64 a5, .int .i64 a6, .int .i64 a7, .string (bs a8), .string (bs a9), .string (bs a10), .int .i64 a11, .slice Aa0 a12.length ka0, .int .i64 a13, .slice Aa1 a14.length ka1, .bool a15]) B0.out 10 rfl
  have hs0_11 : World.cell? v1 ⟨w.heap.size, 11, none⟩ = some (.int .i64 a11) := blk_cell0 (L := [.int .i64 a0, .int .i64 a1, .int .i64 a2, .int .i64 a3, .int .i64 a4, .int .i64 a5, .int .i64 a6, .int .i64 a7, .string (bs a8), .string (bs a9), .string (bs a10), .int .i64 a11, .slice Aa0 a12.length ka0, .int .i64 a13, .slice Aa1 a14.length ka1, .bool a15]) B0.out 11 rfl
  have hs0_12 : World.cell? v1 ⟨w.heap.size, 12, none⟩ = some (.slice Aa0 a12.length ka0) := blk_cell0 (L := [.int .i64 a0, .int .i64 a1, .int .i64 a2, .int .i64 a3, .int .i64 a4, .int .i64 a5, .int .i64 a6, .int .i64 a7, .string (bs a8), .string (bs a9), .string (bs a10), .int .i64 a11, .slice Aa0 a12.length ka0, .int .i64 a13, .slice Aa1 a14.length ka1, .bool a15]) B0.out 12 rfl
  have hs0_13 : World.cell? v1 ⟨w.heap.size, 13, none⟩ = some (.int .i64 a13) := blk_cell0 (L := [.int .i64 a0, .int .i64 a1, .int .i64 a2, .int .i64 a3, .int .i64 a4, .int .i64 a5, .int .i64 a6, .int .i64 a7, .string (bs a8), .string (bs a9), .string (bs a10), .int .i64 a11, .slice Aa0 a12.length ka0, .int .i64 a13, .slice Aa1 a14.length ka1, .bool a15]) B0.out 13 rfl
  have hs0_14 : World.cell? v1 ⟨w.heap.size, 14, none⟩ = some (.slice Aa1 a14.length ka1) := blk_cell0 (L := [.int .i64 a0, .int .i64 a1, .int .i64 a2, .int .i64 a3, .int .i64 a4, .int .i64 a5, .int .i64 a6, .int .i64 a7, .string (bs a8), .string (bs a9), .string (bs a10), .int .i64 a11, .slice Aa0 a12.length ka0, .int .i64 a13, .slice Aa1 a14.length ka1, .bool a15]) B0.out 14 rfl
  have hs0_15 : World.cell? v1 ⟨w.heap.size, 15, none⟩ = some (.bool a15) := blk_cell0 (L := [.int .i64 a0, .int .i64 a1, .int .i64 a2, .int .i64 a3, .int .i64 a4, .int .i64 a5, .int .i64 a6, .int .i64 a7, .string (bs a8), .string (bs a9), .string (bs a10), .int .i64 a11, .slice Aa0 a12.length ka0, .int .i64 a13, .slice Aa1 a14.length ka1, .bool a15]) B0.out 15 rfl
  cases hb0 : idOkB ⟨a0, a1⟩
  case false =>
    go_wp2
    go_ret
    exact ⟨ret_eq (congrArg Value.bool (by rw [HR.out, hb0]; rfl)), BW.out⟩
  case true =>
    go_wp2_with fail
    refine (l1In_any _ _ _ _).mono ?_; rintro e w' ⟨rfl, rfl⟩
    cases hb1 : inB (-1) 600 a2
    case false =>
      go_wp2
      go_ret
      exact ⟨ret_eq (congrArg Value.bool (by rw [HR.out, hb0, hb1]; rfl)), BW.out⟩
    case true =>
      go_wp2_with fail
      refine (l1In_any _ _ _ _).mono ?_; rintro e w' ⟨rfl, rfl⟩
      cases hb2 : inB (-1) a2 a3
      case false =>
        go_wp2
        go_ret
        exact ⟨ret_eq (congrArg Value.bool (by rw [HR.out, hb0, hb1, hb2]; rfl)), BW.out⟩
      case true =>
        go_wp2_with fail
        refine (l1In_any _ _ _ _).mono ?_; rintro e w' ⟨rfl, rfl⟩
        cases hb3 : inB 0 3 a4
        case false =>
          go_wp2
          go_ret
          exact ⟨ret_eq (congrArg Value.bool (by rw [HR.out, hb0, hb1, hb2, hb3]; rfl)), BW.out⟩
        case true =>
          go_wp2_with fail
          refine (sCmdOk_any ⟨a5, a6, a7, a8, a9, a10, a11, a12⟩ _ _ Wcmd0 (Scmd0.out.below BW.out)).mono ?_; rintro e v2 ⟨rfl, hb⟩
          have X := Lib.hid (B0.out.below hb); clear B0
          have B0 := Lib.hid X.out; clear X
          have X := Lib.hid (show Below w.heap.size w v2 from BW.out.trans (hb.mono BW.out.size)); clear BW hb
          have BW := Lib.hid X.out; clear X
          clear hs0_0 hs0_1 hs0_2 hs0_3 hs0_4 hs0_5 hs0_6 hs0_7 hs0_8 hs0_9 hs0_10 hs0_11 hs0_12 hs0_13 hs0_14 hs0_15
          have hs0_0 : World.cell? v2 ⟨w.heap.size, 0, none⟩ = some (.int .i64 a0) := blk_cell0 (L := [.int .i64 a0, .int .i64 a1, .int .i64 a2, .int .i64 a3, .int .i64 a4, .int .i64 a5, .int .i64 a6, .int .i64 a7, .string (bs a8), .string (bs a9), .string (bs a10), .int .i64 a11, .slice Aa0 a12.length ka0, .int .i64 a13, .slice Aa1 a14.length ka1, .bool a15]) B0.out 0 rfl
          have hs0_1 : World.cell? v2 ⟨w.heap.size, 1, none⟩ = some (.int .i64 a1) := blk_cell0 (L := [.int .i64 a0, .int .i64 a1, .int .i64 a2, .int .i64 a3, .int .i64 a4, .int .i64 a5, .int .i64 a6, .int .i64 a7, .string (bs a8), .string (bs a9), .string (bs a10), .int .i64 a11, .slice Aa0 a12.length ka0, .int .i64 a13, .slice Aa1 a14.length ka1, .bool a15]) B0.out 1 rfl
          have hs0_2 : World.cell? v2 ⟨w.heap.size, 2, none⟩ = some (.int .i64 a2) := blk_cell0 (L := [.int .i64 a0, .int .i64 a1, .int .i64 a2, .int .i64 a3, .int .i64 a4, .int .i64 a5, .int .i64 a6, .int .i64 a7, .string (bs a8), .string (bs a9), .string (bs a10), .int .i64 a11, .slice Aa0 a12.length ka0, .int .i64 a13, .slice Aa1 a14.length ka1, .bool a15]) B0.out 2 rfl
          have hs0_3 : World.cell? v2 ⟨w.heap.size, 3, none⟩ = some (.int .i64 a3) := blk_cell0 (L := [.int .i64 a0, .int .i64 a1, .int .i64 a2, .int .i64 a3, .int .i64 a4, .int .i64 a5, .int .i64 a6, .int .i64 a7, .string (bs a8), .string (bs a9), .string (bs a10), .int .i64 a11, .slice Aa0 a12.length ka0, .int .i64 a13, .slice Aa1 a14.length ka1, .bool a15]) B0.out 3 rfl
          have hs0_4 : World.cell? v2 ⟨w.heap.size, 4, none⟩ = some (.int .i64 a4) := blk_cell0 (L := [.int .i64 a0, .int .i64 a1, .int .i64 a2, .int .i64 a3, .int .i64 a4, .int .i64 a5, .int .i64 a6, .int .i64 a7, .string (bs a8), .string (bs a9), .string (bs a10), .int .i64 a11, .slice Aa0 a12.length ka0, .int .i64 a13, .slice Aa1 a14.length ka1, .bool a15]) B0.out 4 rfl
          have hs0_5 : World.cell? v2 ⟨w.heap.size, 5, none⟩ = some (.int .i64 a5) := blk_cell0 (L := [.int .i64 a0, .int .i64 a1, .int .i64 a2, .int .i64 a3, .int .i64 a4, .int .i64 a5, .int .i64 a6, .int .i64 a7, .string (bs a8), .string (bs a9), .string (bs a10), .int .i64 a11, .slice Aa0 a12.length ka0, .int .i64 a13, .slice Aa1 a14.length ka1, .bool a15]) B0.out 5 rfl
          have hs0_6 : World.cell? v2 ⟨w.heap.size, 6, none⟩ = some (.int .i64 a6) := blk_cell0 (L := [.int .i64 a0, .int .i64 a1, .int .i64 a2, .int .i64 a3, .int .i64 a4, .int .i64 a5, .int .i64 a6, .int .i64 a7, .string (bs a8), .string (bs a9), .string (bs a10), .int .i64 a11, .slice Aa0 a12.length ka0, .int .i64 a13, .slice Aa1 a14.length ka1, .bool a15]) B0.out 6 rfl
          have hs0_7 : World.cell? v2 ⟨w.heap.size, 7, none⟩ = some (.int .i64 a7) := blk_cell0 (L := [.int .i64 a0, .int .i64 a1, .int .i64 a2, .int .i64 a3, .int .i64 a4, .int .i64 a5, .int .i64 a6, .int .i64 a7, .string (bs a8), .string (bs a9), .string (bs a10), .int .i64 a11, .slice Aa0 a12.length ka0, .int .i64 a13, .slice Aa1 a14.length ka1, .bool a15]) B0.out 7 rfl
          have hs0_8 : World.cell? v2 ⟨w.heap.size, 8, none⟩ = some (.string (bs a8)) := blk_cell0 (L := [.int .i64 a0, .int .i64 a1, .int .i64 a2, .int .i64 a3, .int .i64 a4, .int .i64 a5, .int .i64 a6, .int .i64 a7, .string (bs a8), .string (bs a9), .string (bs a10), .int .i64 a11, .slice Aa0 a12.length ka0, .int .i64 a13, .slice Aa1 a14.length ka1, .bool a15]) B0.out 8 rfl
          have hs0_9 : World.cell? v2 ⟨w.heap.size, 9, none⟩ = some (.string (bs a9)) := blk_cell0 (L := [.int .i64 a0, .int .i64 a1, .int .i64 a2, .int .i64 a3, .int .i64 a4, .int .i64 a5, .int .i64 a6, .int .i64 a7, .string (bs a8), .string (bs a9), .string (bs a10), .int .i64 a11, .slice Aa0 a12.length ka0, .int .i64 a13, .slice Aa1 a14.length ka1, .bool a15]) B0.out 9 rfl
          have hs0_10 : World.cell? v2 ⟨w.heap.size, 10, none⟩ = some (.string (bs a10)) := blk_cell0 (L := [.int .i64 a0, .int .i64 a1, .int .i64 a2, .int .i64 a3, .int .i64 a4, .int .i64 a5, .int .i64 a6, .int .i64 a7, .string (bs a8), .string (bs a9), .string (bs a10), .int .i64 a11, .slice Aa0 a12.length ka0, .int .i64 a13, .slice Aa1 a14.length ka1, .bool a15]) B0.out 10 rfl
          have hs0_11 : World.cell? v2 ⟨w.heap.size, 11, none⟩ = some (.int .i64 a11) := blk_cell0 (L := [.int .i64 a0, .int .i64 a1, .int .i64 a2, .int .i64 a3, .int .i64 a4, .int .i64 a5, .int .i64 a6, .int .i64 a7, .string (bs a8), .string (bs a9), .string (bs a10), .int .i64 a11, .slice Aa0 a12.length ka0, .int .i64 a13, .slice Aa1 a14.length ka1, .bool a15]) B0.out 11 rfl
          have hs0_12 : World.cell? v2 ⟨w.heap.size, 12, none⟩ = some (.slice Aa0 a12.length ka0) := blk_cell0 (L := [.int .i64 a0, .int .i64 a1, .int .i64 a2, .int .i64 a3, .int .i64 a4, .int .i64 a5, .int .i64 a6, .int .i64 a7, .string (bs a8), .string (bs a9), .string (bs a10), .int .i64 a11, .slice Aa0 a12.length ka0, .int .i64 a13, .slice Aa1 a14.length ka1, .bool a15]) B0.out 12 rfl
          have hs0_13 : World.cell? v2 ⟨w.heap.size, 13, none⟩ = some (.int .i64 a13) := blk_cell0 (L := [.int .i64 a0, .int .i64 a1, .int .i64 a2, .int .i64 a3, .int .i64 a4, .int .i64 a5, .int .i64 a6, .int .i64 a7, .string (bs a8), .string (bs a9), .string (bs a10), .int .i64 a11, .slice Aa0 a12.length ka0, .int .i64 a13, .slice Aa1 a14.length ka1, .bool a15]) B0.out 13 rfl
          have hs0_14 : World.cell? v2 ⟨w.heap.size, 14, none⟩ = some (.slice Aa1 a14.length ka1) := blk_cell0 (L := [.int .i64 a0, .int .i64 a1, .int .i64 a2, .int .i64 a3, .int .i64 a4, .int .i64 a5, .int .i64 a6, .int .i64 a7, .string (bs a8), .string (bs a9), .string (bs a10), .int .i64 a11, .slice Aa0 a12.length ka0, .int .i64 a13, .slice Aa1 a14.length ka1, .bool a15]) B0.out 14 rfl
          have hs0_15 : World.cell? v2 ⟨w.heap.size, 15, none⟩ = some (.bool a15) := blk_cell0 (L := [.int .i64 a0, .int .i64 a1, .int .i64 a2, .int .i64 a3, .int .i64 a4, .int .i64 a5, .int .i64 a6, .int .i64 a7, .string (bs a8), .string (bs a9), .string (bs a10), .int .i64 a11, .slice Aa0 a12.length ka0, .int .i64 a13, .slice Aa1 a14.length ka1, .bool a15]) B0.out 15 rfl
          cases hb4 : cmdOkB ⟨a5, a6, a7, a8, a9, a10, a11, a12⟩
          case false =>
            go_wp2
            go_ret
            exact ⟨ret_eq (congrArg Value.bool (by rw [HR.out, hb0, hb1, hb2, hb3, hb4]; rfl)), BW.out⟩
          case true =>
            go_wp2_with fail
            refine (l1In_any _ _ _ _).mono ?_; rintro e w' ⟨rfl, rfl⟩
            cases hb5 : inB 0 60 a13
            case false =>
              go_wp2
              go_ret
              exact ⟨ret_eq (congrArg Value.bool (by rw [HR.out, hb0, hb1, hb2, hb3, hb4, hb5]; rfl)), BW.out⟩
            case true =>
              go_wp2_with fail
              refine (sIdsOk_any a14 _ _ _ _ rfl Wa14 (Sa14.out.below BW.out)).mono ?_; rintro e v3 ⟨rfl, hb⟩
              have X := Lib.hid (B0.out.below hb); clear B0
              have B0 := Lib.hid X.out; clear X
              have X := Lib.hid (show Below w.heap.size w v3 from BW.out.trans (hb.mono BW.out.size)); clear BW hb
              have BW := Lib.hid X.out; clear X
              clear hs0_0 hs0_1 hs0_2 hs0_3 hs0_4 hs0_5 hs0_6 hs0_7 hs0_8 hs0_9 hs0_10 hs0_11 hs0_12 hs0_13 hs0_14 hs0_15
              have hs0_0 : World.cell? v3 ⟨w.heap.size, 0, none⟩ = some (.int .i64 a0) := blk_cell0 (L := [.int .i64 a0, .int .i64 a1, .int .i64 a2, .int .i64 a3, .int .i64 a4, .int .i64 a5, .int .i64 a6, .int .i64 a7, .string (bs a8), .string (bs a9), .string (bs a10), .int .i64 a11, .slice Aa0 a12.length ka0, .int .i64 a13, .slice Aa1 a14.length ka1, .bool a15]) B0.out 0 rfl
              have hs0_1 : World.cell? v3 ⟨w.heap.size, 1, none⟩ = some (.int .i64 a1) := blk_cell0 (L := [.int .i64 a0, .int .i64 a1, .int .i64 a2, .int .i64 a3, .int .i64 a4, .int .i64 a5, .int .i64 a6, .int .i64 a7, .string (bs a8), .string (bs a9), .string (bs a10), .int .i64 a11, .slice Aa0 a12.length ka0, .int .i64 a13, .slice Aa1 a14.length ka1, .bool a15]) B0.out 1 rfl
              have hs0_2 : World.cell? v3 ⟨w.heap.size, 2, none⟩ = some (.int .i64 a2) := blk_cell0 (L := [.int .i64 a0, .int .i64 a1, .int .i64 a2, .int .i64 a3, .int .i64 a4, .int .i64 a5, .int .i64 a6, .int .i64 a7, .string (bs a8), .string (bs a9), .string (bs a10), .int .i64 a11, .slice Aa0 a12.length ka0, .int .i64 a13, .slice Aa1 a14.length ka1, .bool a15]) B0.out 2 rfl
              have hs0_3 : World.cell? v3 ⟨w.heap.size, 3, none⟩ = some (.int .i64 a3) := blk_cell0 (L := [.int .i64 a0, .int .i64 a1, .int .i64 a2, .int .i64 a3, .int .i64 a4, .int .i64 a5, .int .i64 a6, .int .i64 a7, .string (bs a8), .string (bs a9), .string (bs a10), .int .i64 a11, .slice Aa0 a12.length ka0, .int .i64 a13, .slice Aa1 a14.length ka1, .bool a15]) B0.out 3 rfl
              have hs0_4 : World.cell? v3 ⟨w.heap.size, 4, none⟩ = some (.int .i64 a4) := blk_cell0 (L := [.int .i64 a0, .int .i64 a1, .int .i64 a2, .int .i64 a3, .int .i64 a4, .int .i64 a5, .int .i64 a6, .int .i64 a7, .string (bs a8), .string (bs a9), .string (bs a10), .int .i64 a11, .slice Aa0 a12.length ka0, .int .i64 a13, .slice Aa1 a14.length ka1, .bool a15]) B0.out 4 rfl
              have hs0_5 : World.cell? v3 ⟨w.heap.size, 5, none⟩ = some (.int .i64 a5) := blk_cell0 (L := [.int .i64 a0, .int .i64 a1, .int .i64 a2, .int .i64 a3, .int .i64 a4, .int .i64 a5, .int .i64 a6, .int .i64 a7, .string (bs a8), .string (bs a9), .string (bs a10), .int .i64 a11, .slice Aa0 a12.length ka0, .int .i64 a13, .slice Aa1 a14.length ka1, .bool a15]) B0.out 5 rfl
              have hs0_6 : World.cell? v3 ⟨w.heap.size, 6, none⟩ = some (.int .i64 a6) := blk_cell0 (L := [.int .i64 a0, .int .i64 a1, .int .i64 a2, .int .i64 a3, .int .i64 a4, .int .i64 a5, .int .i64 a6, .int .i64 a7, .string (bs a8), .string (bs a9), .string (bs a10), .int .i64 a11, .slice Aa0 a12.length ka0, .int .i64 a13, .slice Aa1 a14.length ka1, .bool a15]) B0.out 6 rfl
              have hs0_7 : World.cell? v3 ⟨w.heap.size, 7, none⟩ = some (.int .i64 a7) := blk_cell0 (L := [.int .i64 a0, .int .i64 a1, .int .i64 a2, .int .i64 a3, .int .i64 a4, .int .i64 a5, .int .i64 a6, .int .i64 a7, .string (bs a8), .string (bs a9), .string (bs a10), .int .i64 a11, .slice Aa0 a12.length ka0, .int .i64 a13, .slice Aa1 a14.length ka1, .bool a15]) B0.out 7 rfl
              have hs0_8 : World.cell? v3 ⟨w.heap.size, 8, none⟩ = some (.string (bs a8)) := blk_cell0 (L := [.int .i64 a0, .int .i64 a1, .int .i64 a2, .int .i64 a3, .int .i64 a4, .int .i64 a5, .int .i64 a6, .int .i64 a7, .string (bs a8), .string (bs a9), .string (bs a10), .int .i64 a11, .slice Aa0 a12.length ka0, .int .i64 a13, .slice Aa1 a14.length ka1, .bool a15]) B0.out 8 rfl
              have hs0_9 : World.cell? v3 ⟨w.heap.size, 9, none⟩ = some (.string (bs a9)) := blk_cell0 (L := [.int .i64 a0, .int .i64 a1, .int .i64 a2, .int .i64 a3, .int .i64 a4, .int .i64 a5, .int .i64 a6, .int .i64 a7, .string (bs a8), .string (bs a9), .string (bs a10), .int .i64 a11, .slice Aa0 a12.length ka0, .int .i64 a13, .slice Aa1 a14.length ka1, .bool a15]) B0.out 9 rfl
              have hs0_10 : World.cell? v3 ⟨w.heap.size, 10, none⟩ = some (.string (bs a10)) := blk_cell0 (L := [.int .i64 a0, .int .i64 a1, .int .i64 a2, .int .i64 a3, .int .i64 a4, .int .i64 a5, .int .i64 a6, .int .i64 a7, .string (bs a8), .string (bs a9), .string (bs a10), .int .i64 a11, .slice Aa0 a12.length ka0, .int .i64 a13, .slice Aa1 a14.length ka1, .bool a15]) B0.out 10 rfl
              have hs0_11 : World.cell? v3 ⟨w.heap.size, 11, none⟩ = some (.int .i64 a11) := blk_cell0 (L := [.int .i64 a0, .int .i64 a1, .int .i64 a2, .int .i64 a3, .int .i64 a4, .int .i64 a5, .int .i64 a6, .int .i64 a7, .string (bs a8), .string (bs a9), .string (bs a10), .int .i64 a11, .slice Aa0 a12.length ka0, .int .i64 a13, .slice Aa1 a14.length ka1, .bool a15]) B0.out 11 rfl
              have hs0_12 : World.cell? v3 ⟨w.heap.size, 12, none⟩ = some (.slice Aa0 a12.length ka0) := blk_cell0 (L := [.int .i64 a0, .int .i64 a1, .int .i64 a2, .int .i64 a3, .int .i64 a4, .int .i64 a5, .int .i64 a6, .int .i64 a7, .string (bs a8), .string (bs a9), .string (bs a10), .int .i64 a11, .slice Aa0 a12.length ka0, .int .i64 a13, .slice Aa1 a14.length ka1, .bool a15]) B0.out 12 rfl
              have hs0_13 : World.cell? v3 ⟨w.heap.size, 13, none⟩ = some (.int .i64 a13) := blk_cell0 (L := [.int .i64 a0, .int .i64 a1, .int .i64 a2, .int .i64 a3, .int .i64 a4, .int .i64 a5, .int .i64 a6, .int .i64 a7, .string (bs a8), .string (bs a9), .string (bs a10), .int .i64 a11, .slice Aa0 a12.length ka0, .int .i64 a13, .slice Aa1 a14.length ka1, .bool a15]) B0.out 13 rfl
              have hs0_14 : World.cell? v3 ⟨w.heap.size, 14, none⟩ = some (.slice Aa1 a14.length ka1) := blk_cell0 (L := [.int .i64 a0, .int .i64 a1, .int .i64 a2, .int .i64 a3, .int .i64 a4, .int .i64 a5, .int .i64 a6, .int .i64 a7, .string (bs a8), .string (bs a9), .string (bs a10), .int .i64 a11, .slice Aa0 a12.length ka0, .int .i64 a13, .slice Aa1 a14.length ka1, .bool a15]) B0.out 14 rfl
              have hs0_15 : World.cell? v3 ⟨w.heap.size, 15, none⟩ = some (.bool a15) := blk_cell0 (L := [.int .i64 a0, .int .i64 a1, .int .i64 a2, .int .i64 a3, .int .i64 a4, .int .i64 a5, .int .i64 a6, .int .i64 a7, .string (bs a8), .string (bs a9), .string (bs a10), .int .i64 a11, .slice Aa0 a12.length ka0, .int .i64 a13, .slice Aa1 a14.length ka1, .bool a15]) B0.out 15 rfl
              cases hb6 : idsOkB a14
              case false =>
                go_wp2
                go_ret
                exact ⟨ret_eq (congrArg Value.bool (by rw [HR.out, hb0, hb1, hb2, hb3, hb4, hb5, hb6]; rfl)), BW.out⟩
              case true =>
                go_wp2_with fail
                refine (l8Has_any a14 ⟨a0, a1⟩ _ _ _ _ _ rfl (by omega) (Sa14.out.below BW.out) (Sid0.out.below BW.out)).mono ?_; rintro e v4 ⟨rfl, hb⟩
                have X := Lib.hid (B0.out.below hb); clear B0
                have B0 := Lib.hid X.out; clear X
                have X := Lib.hid (show Below w.heap.size w v4 from BW.out.trans (hb.mono BW.out.size)); clear BW hb
                have BW := Lib.hid X.out; clear X
                clear hs0_0 hs0_1 hs0_2 hs0_3 hs0_4 hs0_5 hs0_6 hs0_7 hs0_8 hs0_9 hs0_10 hs0_11 hs0_12 hs0_13 hs0_14 hs0_15
                have hs0_0 : World.cell? v4 ⟨w.heap.size, 0, none⟩ = some (.int .i64 a0) := blk_cell0 (L := [.int .i64 a0, .int .i64 a1, .int .i64 a2, .int .i64 a3, .int .i64 a4, .int .i64 a5, .int .i64 a6, .int .i64 a7, .string (bs a8), .string (bs a9), .string (bs a10), .int .i64 a11, .slice Aa0 a12.length ka0, .int .i64 a13, .slice Aa1 a14.length ka1, .bool a15]) B0.out 0 rfl
                have hs0_1 : World.cell? v4 ⟨w.heap.size, 1, none⟩ = some (.int .i64 a1) := blk_cell0 (L := [.int .i64 a0, .int .i64 a1, .int .i64 a2, .int .i64 a3, .int .i64 a4, .int .i64 a5, .int .i64 a6, .int .i64 a7, .string (bs a8), .string (bs a9), .string (bs a10), .int .i64 a11, .slice Aa0 a12.length ka0, .int .i64 a13, .slice Aa1 a14.length ka1, .bool a15]) B0.out 1 rfl
                have hs0_2 : World.cell? v4 ⟨w.heap.size, 2, none⟩ = some (.int .i64 a2) := blk_cell0 (L := [.int .i64 a0, .int .i64 a1, .int .i64 a2, .int .i64 a3, .int .i64 a4, .int .i64 a5, .int .i64 a6, .int .i64 a7, .string (bs a8), .string (bs a9), .string (bs a10), .int .i64 a11, .slice Aa0 a12.length ka0, .int .i64 a13, .slice Aa1 a14.length ka1, .bool a15]) B0.out 2 rfl
                have hs0_3 : World.cell? v4 ⟨w.heap.size, 3, none⟩ = some (.int .i64 a3) := blk_cell0 (L := [.int .i64 a0, .int .i64 a1, .int .i64 a2, .int .i64 a3, .int .i64 a4, .int .i64 a5, .int .i64 a6, .int .i64 a7, .string (bs a8), .string (bs a9), .string (bs a10), .int .i64 a11, .slice Aa0 a12.length ka0, .int .i64 a13, .slice Aa1 a14.length ka1, .bool a15]) B0.out 3 rfl
                have hs0_4 : World.cell? v4 ⟨w.heap.size, 4, none⟩ = some (.int .i64 a4) := blk_cell0 (L := [.int .i64 a0, .int .i64 a1, .int .i64 a2, .int .i64 a3, .int .i64 a4, .int .i64 a5, .int .i64 a6, .int .i64 a7, .string (bs a8), .string (bs a9), .string (bs a10), .int .i64 a11, .slice Aa0 a12.length ka0, .int .i64 a13, .slice Aa1 a14.length ka1, .bool a15]) B0.out 4 rfl
                have hs0_5 : World.cell? v4 ⟨w.heap.size, 5, none⟩ = some (.int .i64 a5) := blk_cell0 (L := [.int .i64 a0, .int .i64 a1, .int .i64 a2, .int .i64 a3, .int .i64 a4, .int .i64 a5, .int .i64 a6, .int .i64 a7, .string (bs a8), .string (bs a9), .string (bs a10), .int .i64 a11, .slice Aa0 a12.length ka0, .int .i64 a13, .slice Aa1 a14.length ka1, .bool a15]) B0.out 5 rfl
                have hs0_6 : World.cell? v4 ⟨w.heap.size, 6, none⟩ = some (.int .i64 a6) := blk_cell0 (L := [.int .i64 a0, .int .i64 a1, .int .i64 a2, .int .i64 a3, .int .i64 a4, .int .i64 a5, .int .i64 a6, .int .i64 a7, .string (bs a8), .string (bs a9), .string (bs a10), .int .i64 a11, .slice Aa0 a12.length ka0, .int .i64 a13, .slice Aa1 a14.length ka1, .bool a15]) B0.out 6 rfl
                have hs0_7 : World.cell? v4 ⟨w.heap.size, 7, none⟩ = some (.int .i64 a7) := blk_cell0 (L := [.int .i64 a0, .int .i64 a1, .int .i64 a2, .int .i64 a3, .int .i64 a4, .int .i64 a5, .int .i64 a6, .int .i64 a7, .string (bs a8), .string (bs a9), .string (bs a10), .int .i64 a11, .slice Aa0 a12.length ka0, .int .i64 a13, .slice Aa1 a14.length ka1, .bool a15]) B0.out 7 rfl
                have hs0_8 : World.cell? v4 ⟨w.heap.size, 8, none⟩ = some (.string (bs a8)) := blk_cell0 (L := [.int .i64 a0, .int .i64 a1, .int .i64 a2, .int .i64 a3, .int .i64 a4, .int .i64 a5, .int .i64 a6, .int .i64 a7, .string (bs a8), .string (bs a9), .string (bs a10), .int .i64 a11, .slice Aa0 a12.length ka0, .int .i64 a13, .slice Aa1 a14.length ka1, .bool a15]) B0.out 8 rfl
                have hs0_9 : World.cell? v4 ⟨w.heap.size, 9, none⟩ = some (.string (bs a9)) := blk_cell0 (L := [.int .i64 a0, .int .i64 a1, .int .i64 a2, .int .i64 a3, .int .i64 a4, .int .i64 a5, .int .i64 a6, .int .i64 a7, .string (bs a8), .string (bs a9), .string (bs a10), .int .i64 a11, .slice Aa0 a12.length ka0, .int .i64 a13, .slice Aa1 a14.length ka1, .bool a15]) B0.out 9 rfl
                have hs0_10 : World.cell? v4 ⟨w.heap.size, 10, none⟩ = some (.string (bs a10)) := blk_cell0 (L := [.int .i64 a0, .int .i64 a1, .int .i64 a2, .int .i64 a3, .int .i64 a4, .int .i64 a5, .int .i64 a6, .int .i64 a7, .string (bs a8), .string (bs a9), .string (bs a10), .int .i64 a11, .slice Aa0 a12.length ka0, .int .i64 a13, .slice Aa1 a14.length ka1, .bool a15]) B0.out 10 rfl
                have hs0_11 : World.cell? v4 ⟨w.heap.size, 11, none⟩ = some (.int .i64 a11) := blk_cell0 (L := [.int .i64 a0, .int .i64 a1, .int .i64 a2, .int .i64 a3, .int .i64 a4, .int .i64 a5, .int .i64 a6, .int .i64 a7, .string (bs a8), .string (bs a9), .string (bs a10), .int .i64 a11, .slice Aa0 a12.length ka0, .int .i64 a13, .slice Aa1 a14.length ka1, .bool a15]) B0.out 11 rfl
                have hs0_12 : World.cell? v4 ⟨w.heap.size, 12, none⟩ = some (.slice Aa0 a12.length ka0) := blk_cell0 (L := [.int .i64 a0, .int .i64 a1, .int .i64 a2, .int .i64 a3, .int .i64 a4, .int .i64 a5, .int .i64 a6, .int .i64 a7, .string (bs a8), .string (bs a9), .string (bs a10), .int .i64 a11, .slice Aa0 a12.length ka0, .int .i64 a13, .slice Aa1 a14.length ka1, .bool a15]) B0.out 12 rfl
                have hs0_13 : World.cell? v4 ⟨w.heap.size, 13, none⟩ = some (.int .i64 a13) := blk_cell0 (L := [.int .i64 a0, .int .i64 a1, .int .i64 a2, .int .i64 a3, .int .i64 a4, .int .i64 a5, .int .i64 a6, .int .i64 a7, .string (bs a8), .string (bs a9), .string (bs a10), .int .i64 a11, .slice Aa0 a12.length ka0, .int .i64 a13, .slice Aa1 a14.length ka1, .bool a15]) B0.out 13 rfl
                have hs0_14 : World.cell? v4 ⟨w.heap.size, 14, none⟩ = some (.slice Aa1 a14.length ka1) := blk_cell0 (L := [.int .i64 a0, .int .i64 a1, .int .i64 a2, .int .i64 a3, .int .i64 a4, .int .i64 a5, .int .i64 a6, .int .i64 a7, .string (bs a8), .string (bs a9), .string (bs a10), .int .i64 a11, .slice Aa0 a12.length ka0, .int .i64 a13, .slice Aa1 a14.length ka1, .bool a15]) B0.out 14 rfl
                have hs0_15 : World.cell? v4 ⟨w.heap.size, 15, none⟩ = some (.bool a15) := blk_cell0 (L := [.int .i64 a0, .int .i64 a1, .int .i64 a2, .int .i64 a3, .int .i64 a4, .int .i64 a5, .int .i64 a6, .int .i64 a7, .string (bs a8), .string (bs a9), .string (bs a10), .int .i64 a11, .slice Aa0 a12.length ka0, .int .i64 a13, .slice Aa1 a14.length ka1, .bool a15]) B0.out 15 rfl
                cases hb7 : hasB a14 ⟨a0, a1⟩
                case true =>
                  go_wp2
                  go_ret
                  exact ⟨ret_eq (congrArg Value.bool (by rw [HR.out, hb0, hb1, hb2, hb3, hb4, hb5, hb6, hb7]; rfl)), BW.out⟩
                case false =>
                  go_wp2
                  all_goals (go_ret; exact ⟨ret_eq (congrArg Value.bool (by rw [HR.out, hb0, hb1, hb2, hb3, hb4, hb5, hb6, hb7]; rw [Bool.eq_iff_iff]; first | (simp [*]; done) | (simp_all; done))), BW.out⟩)

end Go.Proofs.YtonaacdefidomaaGreat
namespace Go.Proofs.YtonaacdefidomaaGreat
open Go.RowKit

def instsGood (xs : List InstD) (j : Nat) : Prop := ∀ i, i < j → ∃ x, xs[i]? = some x ∧ instOkB x = true ∧ ∀ y, i ≠ 0 → xs[i - 1]? = some y → idLt y.id x.id = true
open Classical in
noncomputable def instsOkB (xs : List InstD) : Bool := decide (instsGood xs xs.length)
theorem instsGood_zero (xs : List InstD) : instsGood xs 0 := fun i hi => absurd hi (Nat.not_lt_zero _)
theorem instsGood_succ {xs : List InstD} {j : Nat} (h : instsGood xs j) (hj : j < xs.length) (h1 : instOkB xs[j] = true) (h2 : ∀ y, j ≠ 0 → xs[j - 1]? = some y → idLt y.id xs[j].id = true) : instsGood xs (j + 1) := fun i hi => by
  by_cases hij : i = j
  · subst hij
    exact ⟨xs[i], List.getElem?_eq_getElem hj, h1, h2⟩
  · exact h i (by omega)
theorem instsOkB_yes {xs : List InstD} (h : instsGood xs xs.length) : instsOkB xs = true := by simp [instsOkB, h]
theorem instsOkB_no1 {xs : List InstD} {j : Nat} (hj : j < xs.length) (h1 : instOkB xs[j] = false) : instsOkB xs = false := by
  simp only [instsOkB, decide_eq_false_iff_not]
  intro h
  obtain ⟨x, h2, h3, _⟩ := h j hj
  rw [List.getElem?_eq_getElem hj] at h2
  injection h2 with h2
  rw [h2, h3] at h1
  cases h1
theorem instsOkB_no2 {xs : List InstD} {j : Nat} (hj : j + 1 < xs.length) (h1 : idLt (xs[j]'(by omega)).id xs[j + 1].id = false) : instsOkB xs = false := by
  simp only [instsOkB, decide_eq_false_iff_not]
  intro h
  obtain ⟨x, h2, _, h3⟩ := h (j + 1) hj
  rw [List.getElem?_eq_getElem hj] at h2
  injection h2 with h2
  have := h3 (xs[j]'(by omega)) (by omega) (List.getElem?_eq_getElem (by omega))
  rw [← h2, h1] at this
  cases this
theorem id_cells {B : Nat → Prop} {w w' : World} {x : InstD} {cs : List Value} {p : Addr} (h : Rep B w' x.c cs) (hc : ∀ f v, cs[f]? = some v → w.cell? (p.add f) = some v) : ∀ f v, [Value.int .i64 x.id.rep, Value.int .i64 x.id.slot][f]? = some v → w.cell? (p.add f) = some v := by
  obtain ⟨A0, k0, A1, k1, rfl, _⟩ := InstD.open h
  intro f v hv
  refine hc f v ?_
  have hlt := (List.getElem?_eq_some_iff.1 hv).1
  have := List.getElem?_append_left (l₁ := [Value.int .i64 x.id.rep, Value.int .i64 x.id.slot]) (l₂ := [Value.int .i64 x.bal, Value.int .i64 x.vbal, Value.int .i64 x.status, Value.int .i64 x.cmd.kind, Value.int .i64 x.cmd.client, Value.int .i64 x.cmd.no, Value.string (bs x.cmd.set), Value.string (bs x.cmd.name), Value.string (bs x.cmd.tag), Value.int .i64 x.cmd.n, Value.slice A0 x.cmd.chunks.length k0, Value.int .i64 x.seq, Value.slice A1 x.deps.length k1, Value.bool x.same]) hlt
  exact this.trans hv


set_option maxRecDepth 100000 in
set_option maxHeartbeats 2000000 in
theorem sInstsOk_all (xs : List InstD) (A : Option Addr) (n c : Nat) (w : World) (hn : n = xs.length) (hnb : n ≤ 2097152) (hwt : ∀ y ∈ xs, (y.c).wt ≤ 1048576) (h : Rep anyB w (.sl 38 16 n (cat InstD.c xs) .nil) [.slice A n c]) :
    Calls Tryz.prog 9 #[.slice A n c] w fun e w' => e = .returned (.bool (instsOkB xs)) ∧ Below w.heap.size w w' := by
  have HWX := Lib.hid hwt; clear hwt
  have HN := Lib.hid hn; clear hn
  have HR := Lib.hid h; clear h
  go_enter Tryz.func9, Tryz.ntmps9
  go_wp2
  go_loopw [3] (fun ii wr => ∃ j : Nat, j ≤ n ∧ ii = .int .i64 (j : Int) ∧ instsGood xs j ∧ Below w.heap.size w wr) (fun ii _ => n - (intOf ii).toNat)
  case atStart => exact ⟨0, Nat.zero_le _, rfl, instsGood_zero _, Below.refl _ _⟩
  case round =>
    obtain ⟨j, hj, rfl, hgood, hbel⟩ := hrel
    have HG := Lib.hid hgood; clear hgood
    have BW := Lib.hid hbel; clear hbel
    by_cases hlt : j < n
    · have hjx : j < xs.length := by have := HN.out; omega
      obtain ⟨ad, ci, rfl, _, _, hrc, hl, hc⟩ := (HR.out.below BW.out).elem InstD.width j hjx HN.out
      have hwx : (xs[j].c).wt ≤ 1048576 := HWX.out _ (List.getElem_mem hjx)
      have hno1 := fun h => instsOkB_no1 hjx h
      have hsucc := fun h1 h2 => instsGood_succ HG.out hjx h1 h2
      have hno2 : ∀ m, (hm : j = m + 1) → idLt (xs[m]'(by omega)).id xs[j].id = false → instsOkB xs = false := fun m hm h => by subst hm; exact instsOkB_no2 hjx h
      have HNO1 := Lib.hid hno1; clear hno1
      have HSU := Lib.hid hsucc; clear hsucc
      have HNO2 := Lib.hid hno2; clear hno2
      have HX := Lib.hid (show xs[j]? = some xs[j] from List.getElem?_eq_getElem hjx)
      generalize xs[j] = x at *
      have HL := Lib.hid hl; clear hl
      have HC := Lib.hid hc; clear hc
      have HRC := Lib.hid hrc; clear hrc
      cases hok : instOkB x with
      | false =>
        have HF := Lib.hid (HNO1.out hok)
        have HOK := Lib.hid hok; clear hok
        go_wp2
        refine wp_region_x 25 [0, 1, 2, 3, 4, 5, 6, 7, 8, 9, 10, 11, 12, 13, 14, 15, 16, 17, 18, 19, 20, 21, 22, 23, 24] (by kernel_rfl) (by kernel_rfl) ?_
        iterate 3 (refine wpX_quiet rfl (by kernel_rfl) rfl ?_; go_wp2; refine ⟨rfl, ?_⟩)
        refine wpX_quiet rfl (by kernel_rfl) rfl ?_; go_wp2_with (first | (refine wpList_load_row _ (ad.add (j * 16)) rfl ci agg_Inst HL.out HC.out ?_) | fail); refine ⟨rfl, ?_⟩
        refine wpX_actor rfl (by kernel_rfl) ?_; go_wp2_with fail
        refine (sInstOk_any x ci _ hwx HRC.out.drew).mono ?_; rintro e v1 ⟨rfl, hb⟩
        rw [HOK.out]
        have HB := Lib.hid hb; clear hb
        go_wp2
        refine ⟨Ext.of_below HB.out, ?_⟩
        iterate 2 (refine wpX_quiet rfl (by kernel_rfl) rfl ?_; go_wp2; refine ⟨rfl, ?_⟩)
        (iterate 6 (refine wpX_skip2 rfl rfl (by kernel_rfl) ?_)); simp only [List.setIfInBounds_toArray, List.set_cons_succ, List.set_cons_zero]; (iterate 6 (refine wpX_skip2 rfl rfl (by kernel_rfl) ?_)); simp only [List.setIfInBounds_toArray, List.set_cons_succ, List.set_cons_zero]; (iterate 5 (refine wpX_skip2 rfl rfl (by kernel_rfl) ?_)); simp only [List.setIfInBounds_toArray, List.set_cons_succ, List.set_cons_zero]
        iterate 1 (refine wpX_quiet rfl (by kernel_rfl) rfl ?_; go_wp2; refine ⟨rfl, ?_⟩)
        refine wpX_nil ?_; simp only [List.drop_succ_cons, List.drop_zero]
        go_wp2
        go_ret
        exact ⟨ret_eq (by rw [HF.out]; rfl), BW.out.trans ((below_drewL HB.out).mono BW.out.size)⟩
      | true =>
        have HOK := Lib.hid hok; clear hok
        cases j with
        | zero =>
          go_wp2
          refine wp_region_x 25 [0, 1, 2, 3, 4, 5, 6, 7, 8, 9, 10, 11, 12, 13, 14, 15, 16, 17, 18, 19, 20, 21, 22, 23, 24] (by kernel_rfl) (by kernel_rfl) ?_
          iterate 3 (refine wpX_quiet rfl (by kernel_rfl) rfl ?_; go_wp2; refine ⟨rfl, ?_⟩)
          refine wpX_quiet rfl (by kernel_rfl) rfl ?_; go_wp2_with (first | (refine wpList_load_row _ (ad.add (0 * 16)) rfl ci agg_Inst HL.out HC.out ?_) | fail); refine ⟨rfl, ?_⟩
          refine wpX_actor rfl (by kernel_rfl) ?_; go_wp2_with fail
          refine (sInstOk_any x ci _ hwx HRC.out.drew).mono ?_; rintro e v1 ⟨rfl, hb⟩
          rw [HOK.out]
          have HB := Lib.hid hb; clear hb
          go_wp2
          refine ⟨Ext.of_below HB.out, ?_⟩
          iterate 5 (refine wpX_quiet rfl (by kernel_rfl) rfl ?_; go_wp2; refine ⟨rfl, ?_⟩)
          (iterate 6 (refine wpX_skip2 rfl rfl (by kernel_rfl) ?_)); simp only [List.setIfInBounds_toArray, List.set_cons_succ, List.set_cons_zero]; (iterate 6 (refine wpX_skip2 rfl rfl (by kernel_rfl) ?_)); simp only [List.setIfInBounds_toArray, List.set_cons_succ, List.set_cons_zero]; (iterate 1 (refine wpX_skip2 rfl rfl (by kernel_rfl) ?_)); simp only [List.setIfInBounds_toArray, List.set_cons_succ, List.set_cons_zero]
          iterate 2 (refine wpX_quiet rfl (by kernel_rfl) rfl ?_; go_wp2; refine ⟨rfl, ?_⟩)
          refine wpX_nil ?_; simp only [List.drop_succ_cons, List.drop_zero]
          go_wp2
          exact ⟨⟨1, by omega, by go_num, HSU.out HOK.out (fun _ h => absurd rfl h), BW.out.trans ((below_drewL HB.out).mono BW.out.size)⟩, by simp only [intOf]; omega⟩
        | succ m =>
          have hmx : m < xs.length := by omega
          obtain ⟨ad', cp, he, _, _, hrc, hl, hc⟩ := (HR.out.below BW.out).elem InstD.width m hmx HN.out
          injection he with he
          subst he
          have hno2 := HNO2.out m rfl
          have HY := Lib.hid (show xs[m]? = some xs[m] from List.getElem?_eq_getElem hmx)
          generalize xs[m] = y at *
          have HLP := Lib.hid hl; clear hl
          have HCP := Lib.hid hc; clear hc
          have HRP := Lib.hid hrc; clear hrc
          have HNO := Lib.hid hno2; clear hno2
          cases hlt2 : idLt y.id x.id with
          | false =>
            have HF := Lib.hid (HNO.out hlt2)
            have HLT := Lib.hid hlt2; clear hlt2
            go_wp2
            refine wp_region_x 25 [0, 1, 2, 3, 4, 5, 6, 7, 8, 9, 10, 11, 12, 13, 14, 15, 16, 17, 18, 19, 20, 21, 22, 23, 24] (by kernel_rfl) (by kernel_rfl) ?_
            iterate 3 (refine wpX_quiet rfl (by kernel_rfl) rfl ?_; go_wp2; refine ⟨rfl, ?_⟩)
            refine wpX_quiet rfl (by kernel_rfl) rfl ?_; go_wp2_with (first | (refine wpList_load_row _ (ad.add ((m + 1) * 16)) rfl ci agg_Inst HL.out HC.out ?_) | fail); refine ⟨rfl, ?_⟩
            refine wpX_actor rfl (by kernel_rfl) ?_; go_wp2_with fail
            refine (sInstOk_any x ci _ hwx HRC.out.drew).mono ?_; rintro e v1 ⟨rfl, hb⟩
            rw [HOK.out]
            have HB := Lib.hid hb; clear hb
            have HC1 := Lib.hid (id_cells HRC.out (cells_below HC.out (below_drewL HB.out)))
            have HC2 := Lib.hid (id_cells HRP.out (cells_below HCP.out (below_drewL HB.out)))
            go_wp2
            refine ⟨Ext.of_below HB.out, ?_⟩
            iterate 10 (refine wpX_quiet rfl (by kernel_rfl) rfl ?_; go_wp2; refine ⟨rfl, ?_⟩)
            refine wpX_quiet rfl (by kernel_rfl) rfl ?_; go_wp2_with (first | (refine wpList_load_row_g _ rfl (ad.add (m * 16)) rfl [.int .i64 y.id.rep, .int .i64 y.id.slot] agg_Id rfl HC2.out ?_) | fail); refine ⟨rfl, ?_⟩
            iterate 4 (refine wpX_quiet rfl (by kernel_rfl) rfl ?_; go_wp2; refine ⟨rfl, ?_⟩)
            refine wpX_quiet rfl (by kernel_rfl) rfl ?_; go_wp2_with (first | (refine wpList_load_row_g _ rfl (ad.add ((m + 1) * 16)) rfl [.int .i64 x.id.rep, .int .i64 x.id.slot] agg_Id rfl HC1.out ?_) | fail); refine ⟨rfl, ?_⟩
            refine wpX_actor rfl (by kernel_rfl) ?_; go_wp2_with fail
            refine (l8Less_any y.id x.id [.int .i64 y.id.rep, .int .i64 y.id.slot] [.int .i64 x.id.rep, .int .i64 x.id.slot] _ IdD.shut IdD.shut).mono ?_; rintro e v2 ⟨rfl, hb⟩
            rw [HLT.out]
            have HB2 := Lib.hid hb; clear hb
            go_wp2
            refine ⟨Ext.of_below HB2.out, ?_⟩
            iterate 3 (refine wpX_quiet rfl (by kernel_rfl) rfl ?_; go_wp2; refine ⟨rfl, ?_⟩)
            refine wpX_nil ?_; simp only [List.drop_succ_cons, List.drop_zero]
            go_wp2
            go_ret
            exact ⟨ret_eq (by rw [HF.out]; rfl), (BW.out.trans ((below_drewL HB.out).mono BW.out.size)).trans (HB2.out.mono (Nat.le_trans BW.out.size HB.out.size))⟩
          | true =>
            have HLT := Lib.hid hlt2; clear hlt2
            go_wp2
            refine wp_region_x 25 [0, 1, 2, 3, 4, 5, 6, 7, 8, 9, 10, 11, 12, 13, 14, 15, 16, 17, 18, 19, 20, 21, 22, 23, 24] (by kernel_rfl) (by kernel_rfl) ?_
            iterate 3 (refine wpX_quiet rfl (by kernel_rfl) rfl ?_; go_wp2; refine ⟨rfl, ?_⟩)
            refine wpX_quiet rfl (by kernel_rfl) rfl ?_; go_wp2_with (first | (refine wpList_load_row _ (ad.add ((m + 1) * 16)) rfl ci agg_Inst HL.out HC.out ?_) | fail); refine ⟨rfl, ?_⟩
            refine wpX_actor rfl (by kernel_rfl) ?_; go_wp2_with fail
            refine (sInstOk_any x ci _ hwx HRC.out.drew).mono ?_; rintro e v1 ⟨rfl, hb⟩
            rw [HOK.out]
            have HB := Lib.hid hb; clear hb
            have HC1 := Lib.hid (id_cells HRC.out (cells_below HC.out (below_drewL HB.out)))
            have HC2 := Lib.hid (id_cells HRP.out (cells_below HCP.out (below_drewL HB.out)))
            go_wp2
            refine ⟨Ext.of_below HB.out, ?_⟩
            iterate 10 (refine wpX_quiet rfl (by kernel_rfl) rfl ?_; go_wp2; refine ⟨rfl, ?_⟩)
            refine wpX_quiet rfl (by kernel_rfl) rfl ?_; go_wp2_with (first | (refine wpList_load_row_g _ rfl (ad.add (m * 16)) rfl [.int .i64 y.id.rep, .int .i64 y.id.slot] agg_Id rfl HC2.out ?_) | fail); refine ⟨rfl, ?_⟩
            iterate 4 (refine wpX_quiet rfl (by kernel_rfl) rfl ?_; go_wp2; refine ⟨rfl, ?_⟩)
            refine wpX_quiet rfl (by kernel_rfl) rfl ?_; go_wp2_with (first | (refine wpList_load_row_g _ rfl (ad.add ((m + 1) * 16)) rfl [.int .i64 x.id.rep, .int .i64 x.id.slot] agg_Id rfl HC1.out ?_) | fail); refine ⟨rfl, ?_⟩
            refine wpX_actor rfl (by kernel_rfl) ?_; go_wp2_with fail
            refine (l8Less_any y.id x.id [.int .i64 y.id.rep, .int .i64 y.id.slot] [.int .i64 x.id.rep, .int .i64 x.id.slot] _ IdD.shut IdD.shut).mono ?_; rintro e v2 ⟨rfl, hb⟩
            rw [HLT.out]
            have HB2 := Lib.hid hb; clear hb
            go_wp2
            refine ⟨Ext.of_below HB2.out, ?_⟩
            iterate 3 (refine wpX_quiet rfl (by kernel_rfl) rfl ?_; go_wp2; refine ⟨rfl, ?_⟩)
            refine wpX_nil ?_; simp only [List.drop_succ_cons, List.drop_zero]
            go_wp2
            exact ⟨⟨m + 1 + 1, by omega, by go_num, HSU.out HOK.out (fun z _ hz => by rw [Nat.add_sub_cancel, HY.out] at hz; injection hz with hz; subst hz; exact HLT.out), (BW.out.trans ((below_drewL HB.out).mono BW.out.size)).trans (HB2.out.mono (Nat.le_trans BW.out.size HB.out.size))⟩, by simp only [intOf]; omega⟩
    · have hjn : j = n := by omega
      subst hjn
      have HF := Lib.hid (instsOkB_yes (by have := HG.out; rw [HN.out] at this; exact this))
      go_wp2
      go_ret
      exact ⟨ret_eq (by rw [HF.out]; rfl), BW.out⟩
theorem sInstsOk_any (xs : List InstD) (A : Option Addr) (n c : Nat) (w : World) (hn : n = xs.length) (hwt : n + (cat InstD.c xs).wt ≤ 1048576) (h : Rep anyB w (.sl 38 16 n (cat InstD.c xs) .nil) [.slice A n c]) :
    Calls Tryz.prog 9 #[.slice A n c] w fun e w' => e = .returned (.bool (instsOkB xs)) ∧ Below w.heap.size w w' :=
  sInstsOk_all xs A n c w hn (by omega) (fun y hy => by have := cat_wt_le (f := InstD.c) hy; omega) h


set_option maxRecDepth 100000 in
set_option maxHeartbeats 4000000 in
theorem iInstsOk_all (xs : List InstD) (A : Option Addr) (n c : Nat) (w : World) (hn : n = xs.length) (hnb : n ≤ 2097152) (hwt : ∀ y ∈ xs, (y.c).wt ≤ 1048576) (h : Rep anyB w (.sl 38 16 n (cat InstD.c xs) .nil) [.slice A n c]) :
    Calls Tryz.prog 25 #[.slice A n c] w fun e w' => e = .returned (.bool (instsOkB xs)) ∧ Below w.heap.size w w' := by
  have HWX := Lib.hid hwt; clear hwt
  have HN := Lib.hid hn; clear hn
  have HR := Lib.hid h; clear h
  go_enter Tryz.func25, Tryz.ntmps25
  go_wp2
  go_loopw [7] (fun ii wr => ∃ j : Nat, j ≤ n ∧ ii = .int .i64 (j : Int) ∧ instsGood xs j ∧ Below w.heap.size w wr) (fun ii _ => n - (intOf ii).toNat)
  case atStart => exact ⟨0, Nat.zero_le _, rfl, instsGood_zero _, Below.refl _ _⟩
  case round =>
    obtain ⟨j, hj, rfl, hgood, hbel⟩ := hrel
    have HG := Lib.hid hgood; clear hgood
    have BW := Lib.hid hbel; clear hbel
    by_cases hlt : j < n
    · have hjx : j < xs.length := by have := HN.out; omega
      obtain ⟨ad, ci, rfl, _, _, hrc, hl, hc⟩ := (HR.out.below BW.out).elem InstD.width j hjx HN.out
      have hwx : (xs[j].c).wt ≤ 1048576 := HWX.out _ (List.getElem_mem hjx)
      have hno1 := fun h => instsOkB_no1 hjx h
      have hsucc := fun h1 h2 => instsGood_succ HG.out hjx h1 h2
      have hno2 : ∀ m, (hm : j = m + 1) → idLt (xs[m]'(by omega)).id xs[j].id = false → instsOkB xs = false := fun m hm h => by subst hm; exact instsOkB_no2 hjx h
      have HNO1 := Lib.hid hno1; clear hno1
      have HSU := Lib.hid hsucc; clear hsucc
      have HNO2 := Lib.hid hno2; clear hno2
      generalize xs[j] = x at *
      have HL := Lib.hid hl; clear hl
      have HC := Lib.hid hc; clear hc
      have HRC := Lib.hid hrc; clear hrc
      go_wp2_with (first | ((with_reducible show wpList _ _ _ ({ dst := _, op := Op.load 38 _, type := _, pos := _, after := _, guard := _ } :: _) _ _); refine wpList_load_row _ (ad.add (j * 16)) rfl ci agg_Inst HL.out HC.out ?_) | ((with_reducible show wpList _ _ _ ({ dst := _, op := Op.store 38 _ _, type := _, pos := _, after := _, guard := _ } :: _) _ _); refine wpList_store_row _ (World.heap wr).size 38 0 ci [] [.int .i64 0, .int .i64 0, .int .i64 0, .int .i64 0, .int .i64 0, .int .i64 0, .int .i64 0, .int .i64 0, .string ⟨#[]⟩, .string ⟨#[]⟩, .string ⟨#[]⟩, .int .i64 0, .slice none 0 0, .int .i64 0, .slice none 0 0, .bool false] [] _ rfl rfl (HL.out ▸ agg_Inst) (blk_new wr _ _) rfl rfl HL.out.symm HRC.out.one ?_; intro v0 hsb hsg) | fail)
      have hb : Below (World.heap wr).size wr v0 := Below.grown (Below.alloc (Below.refl _ _) (Nat.le_refl _) _) hsg (by simp) (fun k hk => by injection hk with hk; omega)
      have hsb2 : Blk v0 (World.heap wr).size 38 ci.toArray := by simpa using hsb
      have XB := Lib.hid hsb2; clear hsb hsb2 hsg
      have B0 := Lib.hid (BW.out.trans (hb.mono BW.out.size))
      have HRC0 := Lib.hid (HRC.out.below hb)
      have HB0 := Lib.hid hb; clear hb
      cases hok : instOkB x with
      | false =>
        have HF := Lib.hid (HNO1.out hok)
        have HOK := Lib.hid hok; clear hok
        refine wp_region_x 19 [0, 1, 2, 3, 4, 5, 6, 7, 8, 9, 10, 11, 12, 13, 14, 15, 16, 17, 18] (by kernel_rfl) (by kernel_rfl) ?_
        refine wpX_quiet rfl (by kernel_rfl) rfl ?_; go_wp2_with (first | (refine wpList_load_row _ ⟨wr.heap.size, 0, none⟩ rfl ci agg_Inst HL.out (blk_cells XB.out.drew) ?_) | fail); refine ⟨rfl, ?_⟩
        refine wpX_actor rfl (by kernel_rfl) ?_; go_wp2_with fail
        refine (iInstOk_any x ci _ hwx HRC0.out.drew).mono ?_; rintro e v1 ⟨rfl, hb⟩
        rw [HOK.out]
        have HB := Lib.hid hb; clear hb
        go_wp2
        refine ⟨Ext.of_below HB.out, ?_⟩
        iterate 2 (refine wpX_quiet rfl (by kernel_rfl) rfl ?_; go_wp2; refine ⟨rfl, ?_⟩)
        (iterate 6 (refine wpX_skip2 rfl rfl (by kernel_rfl) ?_)); simp only [List.setIfInBounds_toArray, List.set_cons_succ, List.set_cons_zero]; (iterate 6 (refine wpX_skip2 rfl rfl (by kernel_rfl) ?_)); simp only [List.setIfInBounds_toArray, List.set_cons_succ, List.set_cons_zero]; (iterate 2 (refine wpX_skip2 rfl rfl (by kernel_rfl) ?_)); simp only [List.setIfInBounds_toArray, List.set_cons_succ, List.set_cons_zero]
        iterate 1 (refine wpX_quiet rfl (by kernel_rfl) rfl ?_; go_wp2; refine ⟨rfl, ?_⟩)
        refine wpX_nil ?_; simp only [List.drop_succ_cons, List.drop_zero]
        go_wp2
        go_ret
        exact ⟨ret_eq (by rw [HF.out]; rfl), B0.out.trans ((below_drewL HB.out).mono B0.out.size)⟩
      | true =>
        have HOK := Lib.hid hok; clear hok
        cases j with
        | zero =>
          refine wp_region_x 19 [0, 1, 2, 3, 4, 5, 6, 7, 8, 9, 10, 11, 12, 13, 14, 15, 16, 17, 18] (by kernel_rfl) (by kernel_rfl) ?_
          refine wpX_quiet rfl (by kernel_rfl) rfl ?_; go_wp2_with (first | (refine wpList_load_row _ ⟨wr.heap.size, 0, none⟩ rfl ci agg_Inst HL.out (blk_cells XB.out.drew) ?_) | fail); refine ⟨rfl, ?_⟩
          refine wpX_actor rfl (by kernel_rfl) ?_; go_wp2_with fail
          refine (iInstOk_any x ci _ hwx HRC0.out.drew).mono ?_; rintro e v1 ⟨rfl, hb⟩
          rw [HOK.out]
          have HB := Lib.hid hb; clear hb
          go_wp2
          refine ⟨Ext.of_below HB.out, ?_⟩
          iterate 5 (refine wpX_quiet rfl (by kernel_rfl) rfl ?_; go_wp2; refine ⟨rfl, ?_⟩)
          (iterate 6 (refine wpX_skip2 rfl rfl (by kernel_rfl) ?_)); simp only [List.setIfInBounds_toArray, List.set_cons_succ, List.set_cons_zero]; (iterate 4 (refine wpX_skip2 rfl rfl (by kernel_rfl) ?_)); simp only [List.setIfInBounds_toArray, List.set_cons_succ, List.set_cons_zero]
          iterate 2 (refine wpX_quiet rfl (by kernel_rfl) rfl ?_; go_wp2; refine ⟨rfl, ?_⟩)
          refine wpX_nil ?_; simp only [List.drop_succ_cons, List.drop_zero]
          go_wp2
          exact ⟨⟨1, by omega, by go_num, HSU.out HOK.out (fun _ h => absurd rfl h), B0.out.trans ((below_drewL HB.out).mono B0.out.size)⟩, by simp only [intOf]; omega⟩
        | succ m =>
          have hmx : m < xs.length := by omega
          obtain ⟨ad', cp, he, _, _, hrc, hl, hc⟩ := (HR.out.below BW.out).elem InstD.width m hmx HN.out
          injection he with he
          subst he
          have hno2 := HNO2.out m rfl
          have HY := Lib.hid (show xs[m]? = some xs[m] from List.getElem?_eq_getElem hmx)
          generalize xs[m] = y at *
          have HLP := Lib.hid hl; clear hl
          have HCP := Lib.hid (cells_below hc HB0.out); clear hc
          have HRP := Lib.hid (hrc.below HB0.out); clear hrc
          have HNO := Lib.hid hno2; clear hno2
          cases hlt2 : idLt y.id x.id with
          | false =>
            have HF := Lib.hid (HNO.out hlt2)
            have hq := idCmp_no hlt2
            clear hlt2
            refine wp_region_x 19 [0, 1, 2, 3, 4, 5, 6, 7, 8, 9, 10, 11, 12, 13, 14, 15, 16, 17, 18] (by kernel_rfl) (by kernel_rfl) ?_
            refine wpX_quiet rfl (by kernel_rfl) rfl ?_; go_wp2_with (first | (refine wpList_load_row _ ⟨wr.heap.size, 0, none⟩ rfl ci agg_Inst HL.out (blk_cells XB.out.drew) ?_) | fail); refine ⟨rfl, ?_⟩
            refine wpX_actor rfl (by kernel_rfl) ?_; go_wp2_with fail
            refine (iInstOk_any x ci _ hwx HRC0.out.drew).mono ?_; rintro e v1 ⟨rfl, hb⟩
            rw [HOK.out]
            have HB := Lib.hid hb; clear hb
            have HC2 := Lib.hid (id_cells HRP.out (cells_below HCP.out (below_drewL HB.out)))
            have XB1 := Lib.hid (XB.out.below (below_drewL HB.out))
            go_wp2
            refine ⟨Ext.of_below HB.out, ?_⟩
            iterate 10 (refine wpX_quiet rfl (by kernel_rfl) rfl ?_; go_wp2; refine ⟨rfl, ?_⟩)
            refine wpX_quiet rfl (by kernel_rfl) rfl ?_; go_wp2_with (first | (refine wpList_load_row_g _ rfl (ad.add (m * 16)) rfl [.int .i64 y.id.rep, .int .i64 y.id.slot] agg_Id rfl HC2.out ?_) | fail); refine ⟨rfl, ?_⟩
            iterate 1 (refine wpX_quiet rfl (by kernel_rfl) rfl ?_; go_wp2; refine ⟨rfl, ?_⟩)
            refine wpX_quiet rfl (by kernel_rfl) rfl ?_; go_wp2_with (first | (refine wpList_load_row_g _ rfl ⟨wr.heap.size, 0, none⟩ rfl [.int .i64 x.id.rep, .int .i64 x.id.slot] agg_Id rfl (id_cells HRC0.out (blk_cells XB1.out)) ?_) | fail); refine ⟨rfl, ?_⟩
            refine wpX_actor rfl (by kernel_rfl) ?_; go_wp2_with fail
            refine (compareIds_any y.id x.id [.int .i64 y.id.rep, .int .i64 y.id.slot] [.int .i64 x.id.rep, .int .i64 x.id.slot] _ IdD.shut IdD.shut).mono ?_; rintro e v2 ⟨rfl, hb⟩
            have HB2 := Lib.hid hb; clear hb
            generalize idCmp y.id x.id = q at *
            go_wp2
            refine ⟨Ext.of_below HB2.out, ?_⟩
            iterate 3 (refine wpX_quiet rfl (by kernel_rfl) rfl ?_; go_wp2; refine ⟨rfl, ?_⟩)
            refine wpX_nil ?_; simp only [List.drop_succ_cons, List.drop_zero]
            go_wp2
            go_ret
            exact ⟨ret_eq (by rw [HF.out]; rfl), (B0.out.trans ((below_drewL HB.out).mono B0.out.size)).trans (HB2.out.mono (Nat.le_trans B0.out.size HB.out.size))⟩
          | true =>
            have HLT := Lib.hid hlt2
            have HQ := Lib.hid (idCmp_yes hlt2); clear hlt2
            refine wp_region_x 19 [0, 1, 2, 3, 4, 5, 6, 7, 8, 9, 10, 11, 12, 13, 14, 15, 16, 17, 18] (by kernel_rfl) (by kernel_rfl) ?_
            refine wpX_quiet rfl (by kernel_rfl) rfl ?_; go_wp2_with (first | (refine wpList_load_row _ ⟨wr.heap.size, 0, none⟩ rfl ci agg_Inst HL.out (blk_cells XB.out.drew) ?_) | fail); refine ⟨rfl, ?_⟩
            refine wpX_actor rfl (by kernel_rfl) ?_; go_wp2_with fail
            refine (iInstOk_any x ci _ hwx HRC0.out.drew).mono ?_; rintro e v1 ⟨rfl, hb⟩
            rw [HOK.out]
            have HB := Lib.hid hb; clear hb
            have HC2 := Lib.hid (id_cells HRP.out (cells_below HCP.out (below_drewL HB.out)))
            have XB1 := Lib.hid (XB.out.below (below_drewL HB.out))
            go_wp2
            refine ⟨Ext.of_below HB.out, ?_⟩
            iterate 10 (refine wpX_quiet rfl (by kernel_rfl) rfl ?_; go_wp2; refine ⟨rfl, ?_⟩)
            refine wpX_quiet rfl (by kernel_rfl) rfl ?_; go_wp2_with (first | (refine wpList_load_row_g _ rfl (ad.add (m * 16)) rfl [.int .i64 y.id.rep, .int .i64 y.id.slot] agg_Id rfl HC2.out ?_) | fail); refine ⟨rfl, ?_⟩
            iterate 1 (refine wpX_quiet rfl (by kernel_rfl) rfl ?_; go_wp2; refine ⟨rfl, ?_⟩)
            refine wpX_quiet rfl (by kernel_rfl) rfl ?_; go_wp2_with (first | (refine wpList_load_row_g _ rfl ⟨wr.heap.size, 0, none⟩ rfl [.int .i64 x.id.rep, .int .i64 x.id.slot] agg_Id rfl (id_cells HRC0.out (blk_cells XB1.out)) ?_) | fail); refine ⟨rfl, ?_⟩
            refine wpX_actor rfl (by kernel_rfl) ?_; go_wp2_with fail
            refine (compareIds_any y.id x.id [.int .i64 y.id.rep, .int .i64 y.id.slot] [.int .i64 x.id.rep, .int .i64 x.id.slot] _ IdD.shut IdD.shut).mono ?_; rintro e v2 ⟨rfl, hb⟩
            rw [HQ.out]
            have HB2 := Lib.hid hb; clear hb
            go_wp2
            refine ⟨Ext.of_below HB2.out, ?_⟩
            iterate 3 (refine wpX_quiet rfl (by kernel_rfl) rfl ?_; go_wp2; refine ⟨rfl, ?_⟩)
            refine wpX_nil ?_; simp only [List.drop_succ_cons, List.drop_zero]
            go_wp2
            exact ⟨⟨m + 1 + 1, by omega, by go_num, HSU.out HOK.out (fun z _ hz => by rw [Nat.add_sub_cancel, HY.out] at hz; injection hz with hz; subst hz; exact HLT.out), (B0.out.trans ((below_drewL HB.out).mono B0.out.size)).trans (HB2.out.mono (Nat.le_trans B0.out.size HB.out.size))⟩, by simp only [intOf]; omega⟩
    · have hjn : j = n := by omega
      subst hjn
      have HF := Lib.hid (instsOkB_yes (by have := HG.out; rw [HN.out] at this; exact this))
      go_wp2
      go_ret
      exact ⟨ret_eq (by rw [HF.out]; rfl), BW.out⟩
theorem iInstsOk_any (xs : List InstD) (A : Option Addr) (n c : Nat) (w : World) (hn : n = xs.length) (hwt : n + (cat InstD.c xs).wt ≤ 1048576) (h : Rep anyB w (.sl 38 16 n (cat InstD.c xs) .nil) [.slice A n c]) :
    Calls Tryz.prog 25 #[.slice A n c] w fun e w' => e = .returned (.bool (instsOkB xs)) ∧ Below w.heap.size w w' :=
  iInstsOk_all xs A n c w hn (by omega) (fun y hy => by have := cat_wt_le (f := InstD.c) hy; omega) h

attribute [irreducible] instsOkB
end Go.Proofs.YtonaacdefidomaaGreat
namespace Go.Proofs.YtonaacdefidomaaGreat
open Go.RowKit

def clashB (a b : CmdD) : Bool := cmdOkB a && (cmdOkB b && (!(a.kind == 0) && (!(b.kind == 0) && (a.kind == 7 || (b.kind == 7 || a.set == b.set)))))


set_option maxRecDepth 100000 in
set_option maxHeartbeats 4000000 in
theorem iClash_any (x y : CmdD) (cs cs' : List Value) (w : World) (hwt : x.c.wt ≤ 1048576) (hwt' : y.c.wt ≤ 1048576) (h : Rep anyB w x.c cs) (h' : Rep anyB w y.c cs') :
    Calls Tryz.prog 26 #[.agg cs.toArray, .agg cs'.toArray] w fun e w' => e = .returned (.bool (clashB x y)) ∧ Below w.heap.size w w' := by
  have HA := Lib.hid h
  have HB := Lib.hid h'
  obtain ⟨A0, k0, rfl, _⟩ := CmdD.open h
  obtain ⟨A1, k1, rfl, _⟩ := CmdD.open h'
  obtain ⟨a0, a1, a2, a3, a4, a5, a6, a7⟩ := x
  obtain ⟨b0, b1, b2, b3, b4, b5, b6, b7⟩ := y
  simp only [] at HA HB ⊢
  have HW := Lib.hid hwt
  have HW' := Lib.hid hwt'
  clear h h' hwt hwt'
  obtain ⟨R, hR⟩ : ∃ R, R = clashB ⟨a0, a1, a2, a3, a4, a5, a6, a7⟩ ⟨b0, b1, b2, b3, b4, b5, b6, b7⟩ := ⟨_, rfl⟩
  rw [← hR]
  rw [clashB] at hR
  simp only [] at hR
  have HR := Lib.hid hR; clear hR
  go_enter Tryz.func26, Tryz.ntmps26
  go_wp2_with fail
  refine (iCmdOk_any ⟨a0, a1, a2, a3, a4, a5, a6, a7⟩ _ _ HW.out (HA.out.below (by repeat' (first | with_reducible exact Below.refl _ _ | with_reducible exact BW.out | with_reducible refine Below.setCell ?_ ?_ _ | with_reducible refine Below.alloc ?_ ?_ _ | with_reducible refine Below.drew ?_ | (simp; done) | (simp; omega) | omega)))).mono ?_; rintro e v1 ⟨rfl, hb⟩
  have SB := Lib.hid (Blk.below (blk2_0 _ _ _ _) hb)
  have TB := Lib.hid (Blk.below (blk2_1 _ _ _ _) hb)
  have BW := Lib.hid (show Below w.heap.size w v1 from Below.trans (by repeat' (first | with_reducible exact Below.refl _ _ | with_reducible exact BW.out | with_reducible refine Below.setCell ?_ ?_ _ | with_reducible refine Below.alloc ?_ ?_ _ | with_reducible refine Below.drew ?_ | (simp; done) | (simp; omega) | omega)) (hb.mono (by first | (simp; done) | (simp; omega) | omega))); clear hb
  cases hx : cmdOkB ⟨a0, a1, a2, a3, a4, a5, a6, a7⟩
  case false =>
    go_wp2
    go_ret
    exact ⟨ret_eq (by rw [HR.out, hx]; rfl), BW.out⟩
  case true =>
    go_wp2_with (first | (refine wpList_load_row_g _ (by first | rfl | kernel_rfl) ⟨w.heap.size + 1, 0, none⟩ rfl [.int .i64 b0, .int .i64 b1, .int .i64 b2, .string (bs b3), .string (bs b4), .string (bs b5), .int .i64 b6, .slice A1 b7.length k1] agg_Cmd rfl (blk_cells TB.out) ?_) | fail)
    refine (iCmdOk_any ⟨b0, b1, b2, b3, b4, b5, b6, b7⟩ _ _ HW'.out (HB.out.below BW.out)).mono ?_; rintro e v2 ⟨rfl, hb⟩
    have SB' := Lib.hid (SB.out.below hb); clear SB
    have SB := Lib.hid SB'.out; clear SB'
    have TB' := Lib.hid (TB.out.below hb); clear TB
    have TB := Lib.hid TB'.out; clear TB'
    have BW' := Lib.hid (show Below w.heap.size w v2 from BW.out.trans (hb.mono BW.out.size)); clear BW
    have BW := Lib.hid BW'.out; clear BW' hb
    have hs0 : World.cell? v2 ⟨w.heap.size, 0, none⟩ = some (.int .i64 a0) := blk_cell0 (L := [.int .i64 a0, .int .i64 a1, .int .i64 a2, .string (bs a3), .string (bs a4), .string (bs a5), .int .i64 a6, .slice A0 a7.length k0]) SB.out 0 rfl
    have ht0 : World.cell? v2 ⟨w.heap.size + 1, 0, none⟩ = some (.int .i64 b0) := blk_cell0 (L := [.int .i64 b0, .int .i64 b1, .int .i64 b2, .string (bs b3), .string (bs b4), .string (bs b5), .int .i64 b6, .slice A1 b7.length k1]) TB.out 0 rfl
    have hs1 : World.cell? v2 ⟨w.heap.size, 1, none⟩ = some (.int .i64 a1) := blk_cell0 (L := [.int .i64 a0, .int .i64 a1, .int .i64 a2, .string (bs a3), .string (bs a4), .string (bs a5), .int .i64 a6, .slice A0 a7.length k0]) SB.out 1 rfl
    have ht1 : World.cell? v2 ⟨w.heap.size + 1, 1, none⟩ = some (.int .i64 b1) := blk_cell0 (L := [.int .i64 b0, .int .i64 b1, .int .i64 b2, .string (bs b3), .string (bs b4), .string (bs b5), .int .i64 b6, .slice A1 b7.length k1]) TB.out 1 rfl
    have hs2 : World.cell? v2 ⟨w.heap.size, 2, none⟩ = some (.int .i64 a2) := blk_cell0 (L := [.int .i64 a0, .int .i64 a1, .int .i64 a2, .string (bs a3), .string (bs a4), .string (bs a5), .int .i64 a6, .slice A0 a7.length k0]) SB.out 2 rfl
    have ht2 : World.cell? v2 ⟨w.heap.size + 1, 2, none⟩ = some (.int .i64 b2) := blk_cell0 (L := [.int .i64 b0, .int .i64 b1, .int .i64 b2, .string (bs b3), .string (bs b4), .string (bs b5), .int .i64 b6, .slice A1 b7.length k1]) TB.out 2 rfl
    have hs3 : World.cell? v2 ⟨w.heap.size, 3, none⟩ = some (.string (bs a3)) := blk_cell0 (L := [.int .i64 a0, .int .i64 a1, .int .i64 a2, .string (bs a3), .string (bs a4), .string (bs a5), .int .i64 a6, .slice A0 a7.length k0]) SB.out 3 rfl
    have ht3 : World.cell? v2 ⟨w.heap.size + 1, 3, none⟩ = some (.string (bs b3)) := blk_cell0 (L := [.int .i64 b0, .int .i64 b1, .int .i64 b2, .string (bs b3), .string (bs b4), .string (bs b5), .int .i64 b6, .slice A1 b7.length k1]) TB.out 3 rfl
    have hs4 : World.cell? v2 ⟨w.heap.size, 4, none⟩ = some (.string (bs a4)) := blk_cell0 (L := [.int .i64 a0, .int .i64 a1, .int .i64 a2, .string (bs a3), .string (bs a4), .string (bs a5), .int .i64 a6, .slice A0 a7.length k0]) SB.out 4 rfl
    have ht4 : World.cell? v2 ⟨w.heap.size + 1, 4, none⟩ = some (.string (bs b4)) := blk_cell0 (L := [.int .i64 b0, .int .i64 b1, .int .i64 b2, .string (bs b3), .string (bs b4), .string (bs b5), .int .i64 b6, .slice A1 b7.length k1]) TB.out 4 rfl
    have hs5 : World.cell? v2 ⟨w.heap.size, 5, none⟩ = some (.string (bs a5)) := blk_cell0 (L := [.int .i64 a0, .int .i64 a1, .int .i64 a2, .string (bs a3), .string (bs a4), .string (bs a5), .int .i64 a6, .slice A0 a7.length k0]) SB.out 5 rfl
    have ht5 : World.cell? v2 ⟨w.heap.size + 1, 5, none⟩ = some (.string (bs b5)) := blk_cell0 (L := [.int .i64 b0, .int .i64 b1, .int .i64 b2, .string (bs b3), .string (bs b4), .string (bs b5), .int .i64 b6, .slice A1 b7.length k1]) TB.out 5 rfl
    have hs6 : World.cell? v2 ⟨w.heap.size, 6, none⟩ = some (.int .i64 a6) := blk_cell0 (L := [.int .i64 a0, .int .i64 a1, .int .i64 a2, .string (bs a3), .string (bs a4), .string (bs a5), .int .i64 a6, .slice A0 a7.length k0]) SB.out 6 rfl
    have ht6 : World.cell? v2 ⟨w.heap.size + 1, 6, none⟩ = some (.int .i64 b6) := blk_cell0 (L := [.int .i64 b0, .int .i64 b1, .int .i64 b2, .string (bs b3), .string (bs b4), .string (bs b5), .int .i64 b6, .slice A1 b7.length k1]) TB.out 6 rfl
    have hs7 : World.cell? v2 ⟨w.heap.size, 7, none⟩ = some (.slice A0 a7.length k0) := blk_cell0 (L := [.int .i64 a0, .int .i64 a1, .int .i64 a2, .string (bs a3), .string (bs a4), .string (bs a5), .int .i64 a6, .slice A0 a7.length k0]) SB.out 7 rfl
    have ht7 : World.cell? v2 ⟨w.heap.size + 1, 7, none⟩ = some (.slice A1 b7.length k1) := blk_cell0 (L := [.int .i64 b0, .int .i64 b1, .int .i64 b2, .string (bs b3), .string (bs b4), .string (bs b5), .int .i64 b6, .slice A1 b7.length k1]) TB.out 7 rfl
    cases hy : cmdOkB ⟨b0, b1, b2, b3, b4, b5, b6, b7⟩
    all_goals go_wp2
    all_goals (go_ret; exact ⟨ret_eq (congrArg Value.bool (by rw [HR.out, hx, hy]; clear HR HA HB HW HW' SB TB BW; rw [Bool.eq_iff_iff]; first | (simp [*]; done) | (simp [*, or_assoc]; done) | (simp_all; done))), BW.out⟩)


set_option maxRecDepth 100000 in
set_option maxHeartbeats 4000000 in
theorem sClash_any (x y : CmdD) (cs cs' : List Value) (w : World) (hwt : x.c.wt ≤ 1048576) (hwt' : y.c.wt ≤ 1048576) (h : Rep anyB w x.c cs) (h' : Rep anyB w y.c cs') :
    Calls Tryz.prog 10 #[.agg cs.toArray, .agg cs'.toArray] w fun e w' => e = .returned (.bool (clashB x y)) ∧ Below w.heap.size w w' := by
  have HA := Lib.hid h
  have HB := Lib.hid h'
  obtain ⟨A0, k0, rfl, _⟩ := CmdD.open h
  obtain ⟨A1, k1, rfl, _⟩ := CmdD.open h'
  obtain ⟨a0, a1, a2, a3, a4, a5, a6, a7⟩ := x
  obtain ⟨b0, b1, b2, b3, b4, b5, b6, b7⟩ := y
  simp only [] at HA HB ⊢
  have HW := Lib.hid hwt
  have HW' := Lib.hid hwt'
  clear h h' hwt hwt'
  obtain ⟨R, hR⟩ : ∃ R, R = clashB ⟨a0, a1, a2, a3, a4, a5, a6, a7⟩ ⟨b0, b1, b2, b3, b4, b5, b6, b7⟩ := ⟨_, rfl⟩
  rw [← hR]
  rw [clashB] at hR
  simp only [] at hR
  have HR := Lib.hid hR; clear hR
  go_enter Tryz.func10, Tryz.ntmps10
  go_wp2_with fail
  refine (sCmdOk_any ⟨a0, a1, a2, a3, a4, a5, a6, a7⟩ _ _ HW.out (HA.out.below (by repeat' (first | with_reducible exact Below.refl _ _ | with_reducible exact BW.out | with_reducible refine Below.setCell ?_ ?_ _ | with_reducible refine Below.alloc ?_ ?_ _ | with_reducible refine Below.drew ?_ | (simp; done) | (simp; omega) | omega)))).mono ?_; rintro e v1 ⟨rfl, hb⟩
  have SB := Lib.hid (Blk.below (blk2_0 _ _ _ _) hb)
  have TB := Lib.hid (Blk.below (blk2_1 _ _ _ _) hb)
  have BW := Lib.hid (show Below w.heap.size w v1 from Below.trans (by repeat' (first | with_reducible exact Below.refl _ _ | with_reducible exact BW.out | with_reducible refine Below.setCell ?_ ?_ _ | with_reducible refine Below.alloc ?_ ?_ _ | with_reducible refine Below.drew ?_ | (simp; done) | (simp; omega) | omega)) (hb.mono (by first | (simp; done) | (simp; omega) | omega))); clear hb
  cases hx : cmdOkB ⟨a0, a1, a2, a3, a4, a5, a6, a7⟩
  case false =>
    go_wp2
    go_ret
    exact ⟨ret_eq (by rw [HR.out, hx]; rfl), BW.out⟩
  case true =>
    go_wp2_with (first | (refine wpList_load_row_g _ (by first | rfl | kernel_rfl) ⟨w.heap.size + 1, 0, none⟩ rfl [.int .i64 b0, .int .i64 b1, .int .i64 b2, .string (bs b3), .string (bs b4), .string (bs b5), .int .i64 b6, .slice A1 b7.length k1] agg_Cmd rfl (blk_cells TB.out) ?_) | fail)
    refine (sCmdOk_any ⟨b0, b1, b2, b3, b4, b5, b6, b7⟩ _ _ HW'.out (HB.out.below BW.out)).mono ?_; rintro e v2 ⟨rfl, hb⟩
    have SB' := Lib.hid (SB.out.below hb); clear SB
    have SB := Lib.hid SB'.out; clear SB'
    have TB' := Lib.hid (TB.out.below hb); clear TB
    have TB := Lib.hid TB'.out; clear TB'
    have BW' := Lib.hid (show Below w.heap.size w v2 from BW.out.trans (hb.mono BW.out.size)); clear BW
    have BW := Lib.hid BW'.out; clear BW' hb
    have hs0 : World.cell? v2 ⟨w.heap.size, 0, none⟩ = some (.int .i64 a0) := blk_cell0 (L := [.int .i64 a0, .int .i64 a1, .int .i64 a2, .string (bs a3), .string (bs a4), .string (bs a5), .int .i64 a6, .slice A0 a7.length k0]) SB.out 0 rfl
    have ht0 : World.cell? v2 ⟨w.heap.size + 1, 0, none⟩ = some (.int .i64 b0) := blk_cell0 (L := [.int .i64 b0, .int .i64 b1, .int .i64 b2, .string (bs b3), .string (bs b4), .string (bs b5), .int .i64 b6, .slice A1 b7.length k1]) TB.out 0 rfl
    have hs1 : World.cell? v2 ⟨w.heap.size, 1, none⟩ = some (.int .i64 a1) := blk_cell0 (L := [.int .i64 a0, .int .i64 a1, .int .i64 a2, .string (bs a3), .string (bs a4), .string (bs a5), .int .i64 a6, .slice A0 a7.length k0]) SB.out 1 rfl
    have ht1 : World.cell? v2 ⟨w.heap.size + 1, 1, none⟩ = some (.int .i64 b1) := blk_cell0 (L := [.int .i64 b0, .int .i64 b1, .int .i64 b2, .string (bs b3), .string (bs b4), .string (bs b5), .int .i64 b6, .slice A1 b7.length k1]) TB.out 1 rfl
    have hs2 : World.cell? v2 ⟨w.heap.size, 2, none⟩ = some (.int .i64 a2) := blk_cell0 (L := [.int .i64 a0, .int .i64 a1, .int .i64 a2, .string (bs a3), .string (bs a4), .string (bs a5), .int .i64 a6, .slice A0 a7.length k0]) SB.out 2 rfl
    have ht2 : World.cell? v2 ⟨w.heap.size + 1, 2, none⟩ = some (.int .i64 b2) := blk_cell0 (L := [.int .i64 b0, .int .i64 b1, .int .i64 b2, .string (bs b3), .string (bs b4), .string (bs b5), .int .i64 b6, .slice A1 b7.length k1]) TB.out 2 rfl
    have hs3 : World.cell? v2 ⟨w.heap.size, 3, none⟩ = some (.string (bs a3)) := blk_cell0 (L := [.int .i64 a0, .int .i64 a1, .int .i64 a2, .string (bs a3), .string (bs a4), .string (bs a5), .int .i64 a6, .slice A0 a7.length k0]) SB.out 3 rfl
    have ht3 : World.cell? v2 ⟨w.heap.size + 1, 3, none⟩ = some (.string (bs b3)) := blk_cell0 (L := [.int .i64 b0, .int .i64 b1, .int .i64 b2, .string (bs b3), .string (bs b4), .string (bs b5), .int .i64 b6, .slice A1 b7.length k1]) TB.out 3 rfl
    have hs4 : World.cell? v2 ⟨w.heap.size, 4, none⟩ = some (.string (bs a4)) := blk_cell0 (L := [.int .i64 a0, .int .i64 a1, .int .i64 a2, .string (bs a3), .string (bs a4), .string (bs a5), .int .i64 a6, .slice A0 a7.length k0]) SB.out 4 rfl
    have ht4 : World.cell? v2 ⟨w.heap.size + 1, 4, none⟩ = some (.string (bs b4)) := blk_cell0 (L := [.int .i64 b0, .int .i64 b1, .int .i64 b2, .string (bs b3), .string (bs b4), .string (bs b5), .int .i64 b6, .slice A1 b7.length k1]) TB.out 4 rfl
    have hs5 : World.cell? v2 ⟨w.heap.size, 5, none⟩ = some (.string (bs a5)) := blk_cell0 (L := [.int .i64 a0, .int .i64 a1, .int .i64 a2, .string (bs a3), .string (bs a4), .string (bs a5), .int .i64 a6, .slice A0 a7.length k0]) SB.out 5 rfl
    have ht5 : World.cell? v2 ⟨w.heap.size + 1, 5, none⟩ = some (.string (bs b5)) := blk_cell0 (L := [.int .i64 b0, .int .i64 b1, .int .i64 b2, .string (bs b3), .string (bs b4), .string (bs b5), .int .i64 b6, .slice A1 b7.length k1]) TB.out 5 rfl
    have hs6 : World.cell? v2 ⟨w.heap.size, 6, none⟩ = some (.int .i64 a6) := blk_cell0 (L := [.int .i64 a0, .int .i64 a1, .int .i64 a2, .string (bs a3), .string (bs a4), .string (bs a5), .int .i64 a6, .slice A0 a7.length k0]) SB.out 6 rfl
    have ht6 : World.cell? v2 ⟨w.heap.size + 1, 6, none⟩ = some (.int .i64 b6) := blk_cell0 (L := [.int .i64 b0, .int .i64 b1, .int .i64 b2, .string (bs b3), .string (bs b4), .string (bs b5), .int .i64 b6, .slice A1 b7.length k1]) TB.out 6 rfl
    have hs7 : World.cell? v2 ⟨w.heap.size, 7, none⟩ = some (.slice A0 a7.length k0) := blk_cell0 (L := [.int .i64 a0, .int .i64 a1, .int .i64 a2, .string (bs a3), .string (bs a4), .string (bs a5), .int .i64 a6, .slice A0 a7.length k0]) SB.out 7 rfl
    have ht7 : World.cell? v2 ⟨w.heap.size + 1, 7, none⟩ = some (.slice A1 b7.length k1) := blk_cell0 (L := [.int .i64 b0, .int .i64 b1, .int .i64 b2, .string (bs b3), .string (bs b4), .string (bs b5), .int .i64 b6, .slice A1 b7.length k1]) TB.out 7 rfl
    cases hy : cmdOkB ⟨b0, b1, b2, b3, b4, b5, b6, b7⟩
    all_goals go_wp2
    all_goals (go_ret; exact ⟨ret_eq (congrArg Value.bool (by rw [HR.out, hx, hy]; clear HR HA HB HW HW' SB TB BW; rw [Bool.eq_iff_iff]; first | (simp [*]; done) | (simp [*, or_assoc]; done) | (simp_all; done))), BW.out⟩)


attribute [irreducible] clashB

end Go.Proofs.YtonaacdefidomaaGreat
namespace Go.Proofs.YtonaacdefidomaaGreat
open Go.RowKit
inductive HG where
  | leaf
  | one (i : Nat) (r : HG)
  | two (i k : Nat) (r s : HG)
  | act (i : Nat) (r : HG)
def HG.len : HG → Nat
  | .leaf => 0
  | .one _ r => r.len + 1
  | .two _ _ r _ => r.len + 1
  | .act _ r => r.len + 1
section
variable {P : Program} {md : Region.Mode} {ops : Array Oper}
def wpG (P : Program) (ops : Array Oper) (Q : Exit → Act → World → Prop) (tail : List Oper) : HG → Act → World → Prop
  | .leaf, a, w => wpList P ops Q tail a w
  | .one i r, a, w => match ops[i]? with
    | none => False
    | some o =>
      if quietKind P o.op = true then (Region.wanted o (yielded ops a.tmps) = true → plainB o a = true) ∧ wpList P ops (stopQ w (wpG P ops Q tail r)) [o] a w
      else wpList P ops (stopA w (wpG P ops Q tail r)) [o] a w
  | .two i k r s, a, w => match ops[i]? with
    | none => False
    | some o => match ops[k]? with
      | none => False
      | some o' => wpList P ops (stopA w (wpG P ops Q tail r)) [o] a w ∧ wpList P ops (stopA w (wpG P ops Q tail s)) [o'] a w
  | .act i r, a, w => match ops[i]? with
    | none => False
    | some o => wpList P ops (stopA w (wpG P ops Q tail r)) [o] a w

theorem wpG_quiet {Q : Exit → Act → World → Prop} {tail : List Oper} {i : Nat} {r : HG} {a : Act} {w : World} {o : Oper} (hi : ops[i]? = some o) (hk : quietKind P o.op = true) (hp : plainB o a = true)
    (h : wpList P ops (stopQ w (wpG P ops Q tail r)) [o] a w) : wpG P ops Q tail (.one i r) a w := by
  simp only [wpG, hi, hk, if_true]
  exact ⟨fun _ => hp, h⟩
theorem wpG_actor {Q : Exit → Act → World → Prop} {tail : List Oper} {i : Nat} {r : HG} {a : Act} {w : World} {o : Oper} (hi : ops[i]? = some o) (hk : quietKind P o.op = false)
    (h : wpList P ops (stopA w (wpG P ops Q tail r)) [o] a w) : wpG P ops Q tail (.one i r) a w := by
  simp only [wpG, hi, hk, Bool.false_eq_true, if_false]
  exact h
theorem wpG_two {Q : Exit → Act → World → Prop} {tail : List Oper} {i k : Nat} {r s : HG} {a : Act} {w : World} {o o' : Oper} (hi : ops[i]? = some o) (hk : ops[k]? = some o')
    (h : wpList P ops (stopA w (wpG P ops Q tail r)) [o] a w) (h' : wpList P ops (stopA w (wpG P ops Q tail s)) [o'] a w) : wpG P ops Q tail (.two i k r s) a w := by
  simp only [wpG, hi, hk]
  exact ⟨h, h'⟩
theorem wpG_act {Q : Exit → Act → World → Prop} {tail : List Oper} {i : Nat} {r : HG} {a : Act} {w : World} {o : Oper} (hi : ops[i]? = some o)
    (h : wpList P ops (stopA w (wpG P ops Q tail r)) [o] a w) : wpG P ops Q tail (.act i r) a w := by
  simp only [wpG, hi]
  exact h
theorem wpG_skip {Q : Exit → Act → World → Prop} {tail : List Oper} {i : Nat} {r : HG} {T : Array Value} {D : List Deferred} {w : World} {o : Oper} {d : Tmp} (hi : ops[i]? = some o) (hd : o.dst = some d) (hw : Region.wanted o (yielded ops T) = false)
    (h : wpG P ops Q tail r ⟨T.setIfInBounds d undef, D⟩ w) : wpG P ops Q tail (.one i r) ⟨T, D⟩ w := by
  have h0 : wpG P ops Q tail r ((Act.mk T D).put o.dst undef) w := by rw [hd]; exact h
  simp only [wpG, hi]
  have h1 : ∀ S : Exit → Act → World → Prop, S .normal ((Act.mk T D).put o.dst undef) w → wpList P ops S [o] (Act.mk T D) w := fun S hS => by
    simp only [wpList, hw, Bool.false_eq_true, if_false]
    exact hS
  split
  · exact ⟨fun hx => absurd hx (by simp [hw]), h1 _ ⟨rfl, h0⟩⟩
  · exact h1 _ ⟨Ext.refl _, h0⟩
theorem wpG_nil {Q : Exit → Act → World → Prop} {tail : List Oper} {a : Act} {w : World} (h : wpList P ops Q tail a w) : wpG P ops Q tail .leaf a w := h

def headG (P : Program) (md : Region.Mode) (ops : Array Oper) (n : Nat) : HG → Array Bool → Bool
  | .leaf, listed => Region.seqB md ops (ops.size - n) n listed
  | .one i r, listed => decide (i < n) && (match ops[i]? with
      | none => false
      | some o => if quietKind P o.op = true then (Region.ready md ops listed).contains i && Region.free md ops listed i else decide (Region.ready md ops listed = [i])) &&
    headG P md ops n r (listed.setIfInBounds i true)
  | .two i k r s, listed => decide (i < n) && decide (k < n) && decide (r.len = s.len) && decide (Region.ready md ops listed = [i, k]) && headG P md ops n r (listed.setIfInBounds i true) && headG P md ops n s (listed.setIfInBounds k true)
  | .act i r, listed => decide (i < n) && decide (Region.ready md ops listed = [i]) && headG P md ops n r (listed.setIfInBounds i true)
def headBG (P : Program) (md : Region.Mode) (ops : Array Oper) (n : Nat) (r : HG) : Bool :=
  Region.noSelect ops && (decide (n = ops.size) || (decide (n < ops.size) && Region.sinkB md ops n && Region.chainB md ops n)) && decide (r.len = n) && headG P md ops n r (Array.replicate ops.size false)

theorem wpOp_of_stopG {n : Nat} {Q : Exit → Act → World → Prop} {tail : List Oper} {r : HG} {j : Nat} {o : Oper} {listed : Array Bool} {a : Act} {w : World} {f : Nat} (ho : ops[j]? = some o)
    (step : ∀ a' w', stopA w (wpG P ops Q tail r) .normal a' w' → wpAnyC P md ops n (Ext w) (fun listed' a' w' => Region.seqB md ops (ops.size - n) n listed' = true ∧ wpList P ops Q tail a' w') f (listed.setIfInBounds j true) a' w')
    (h : wpList P ops (stopA w (wpG P ops Q tail r)) [o] a w) :
    wpOp P ops noQ j (wpAnyC P md ops n (Ext w) (fun listed' a' w' => Region.seqB md ops (ops.size - n) n listed' = true ∧ wpList P ops Q tail a' w') f (listed.setIfInBounds j true)) a w := by
  unfold wpOp
  simp only [ho]
  simp only [wpList] at h
  by_cases hw : Region.wanted o (yielded ops a.tmps) = true
  · rw [if_pos hw] at h ⊢
    rcases h with h | ⟨_, _, _, hx⟩
    · exact .inl (wp_off stopA_off step h)
    · exact hx.elim
  · rw [if_neg hw] at h ⊢
    exact step _ _ h

theorem wpAnyC_of_G {n : Nat} {Q : Exit → Act → World → Prop} {tail : List Oper} (hsel : ∀ (j : Nat) (o : Oper) cs b, ops[j]? = some o → o.op ≠ .select cs b) (hblk : Blocks md ops n) :
    ∀ (r : HG) (listed : Array Bool) (a : Act) (w : World), HeadInv md ops n listed → headG P md ops n r listed = true → wpG P ops Q tail r a w →
      wpAnyC P md ops n (Ext w) (fun listed' a' w' => Region.seqB md ops (ops.size - n) n listed' = true ∧ wpList P ops Q tail a' w') r.len listed a w
  | .leaf, _, _, w, _, hB, h => ⟨Ext.refl w, hB, h⟩
  | .two i k r s, listed, a, w, inv, hB, h => by
    simp only [headG, Bool.and_eq_true, decide_eq_true_eq] at hB
    obtain ⟨⟨⟨⟨⟨hin, hkn⟩, hlen⟩, hready⟩, hB1⟩, hB2⟩ := hB
    cases ho : ops[i]? with
    | none => simp only [wpG, ho] at h
    | some o =>
      cases ho' : ops[k]? with
      | none => simp only [wpG, ho, ho'] at h
      | some o' =>
        simp only [wpG, ho, ho'] at h
        have hri : i ∈ Region.ready md ops listed := by rw [hready]; simp
        have hrk : k ∈ Region.ready md ops listed := by rw [hready]; simp
        refine ⟨Ext.refl w, by rw [hready]; simp, fun j hj => ?_⟩
        rw [hready] at hj
        simp only [List.mem_cons, List.not_mem_nil, or_false] at hj
        rcases hj with rfl | rfl
        · exact ⟨hin, wpOp_of_stopG ho (fun a' w' hs => wpAnyC_mono (fun w2 h2 => hs.1.trans h2) _ _ _ _ (wpAnyC_of_G hsel hblk r _ a' w' (inv.set hri hin) hB1 hs.2)) h.1⟩
        · refine ⟨hkn, wpOp_of_stopG ho' (fun a' w' hs => ?_) h.2⟩
          have := wpAnyC_mono (fun w2 h2 => hs.1.trans h2) _ _ _ _ (wpAnyC_of_G hsel hblk s _ a' w' (inv.set hrk hkn) hB2 hs.2)
          rw [← hlen] at this
          exact this
  | .one i r, listed, a, w, inv, hB, h => by
    simp only [headG, Bool.and_eq_true, decide_eq_true_eq] at hB
    obtain ⟨⟨hin, hB1⟩, hB2⟩ := hB
    cases ho : ops[i]? with
    | none => rw [ho] at hB1; cases hB1
    | some o =>
      rw [ho] at hB1
      simp only [wpG, ho] at h
      simp only at hB1
      have hdone : ∀ (listed : Array Bool) (a : Act) (w : World), (Region.seqB md ops (ops.size - n) n listed = true ∧ wpList P ops Q tail a w) → ∀ j ∈ Region.ready md ops listed, n ≤ j := fun _ _ _ hx => seqB_ready hx.1
      by_cases hk : quietKind P o.op = true
      · rw [if_pos hk] at hB1 h
        simp only [Bool.and_eq_true] at hB1
        have hr : i ∈ Region.ready md ops listed := by simpa using hB1.1
        obtain ⟨hp, h⟩ := h
        simp only [wpList] at h
        have key : ∃ v, YieldsE P ops (Ext w) o v a ∧ wpG P ops Q tail r (a.put o.dst v) w := by
          by_cases hw : Region.wanted o (yielded ops a.tmps) = true
          · rw [if_pos hw] at h
            rcases h with h | ⟨_, _, _, hx⟩
            · have hst := Stable.op (P := P) (o := o) (a := a) hk (hp hw)
              unfold Oper.wp at h
              cases hrun : (execOp a.eval o).run P w with
              | halt x w' =>
                rw [hrun] at h
                cases x <;> simp only [Oper.upon] at h
                exact h.elim
              | ok nx w' =>
                obtain ⟨rfl, hall⟩ := hst w nx w' hrun
                rw [hrun] at h
                have hval : ∃ v, nx = .value v := by
                  obtain ⟨dst, op, type, pos, after, guard⟩ := o
                  have fromVal : ∀ {s : Sem Value}, (do Pure.pure (Next.value (← s)) : Sem Next).run P w' = .ok nx w' → ∃ v, nx = .value v := fun {s} hs => by
                    rw [Sem.run_bind] at hs
                    cases hs2 : s.run P w' with
                    | halt _ _ => rw [hs2] at hs; cases hs
                    | ok v w2 =>
                      rw [hs2] at hs
                      simp only [Result.andThen, Sem.run_pure, Result.ok.injEq] at hs
                      exact ⟨v, hs.1.symm⟩
                  cases op <;> first | exact absurd hk Bool.false_ne_true | exact fromVal hrun | skip
                  case move x => simp only [execOp, Sem.run_pure, Result.ok.injEq] at hrun; exact ⟨_, hrun.1.symm⟩
                  case assign x => simp only [execOp, Sem.run_pure, Result.ok.injEq] at hrun; exact ⟨_, hrun.1.symm⟩
                  case pick c x y =>
                    simp only [execOp, Sem.run_bind] at hrun
                    cases hs2 : (asBool (a.eval c)).run P w' with
                    | halt _ _ => rw [hs2] at hrun; cases hrun
                    | ok v w2 =>
                      rw [hs2] at hrun
                      simp only [Result.andThen, Sem.run_pure, Result.ok.injEq] at hrun
                      exact ⟨_, hrun.1.symm⟩
                  case nilCheck x =>
                    have hp' := hp hw
                    simp only [plainB] at hp'
                    simp only [execOp] at hrun
                    split at hp'
                    · rename_i ad he
                      rw [he] at hrun
                      simp only [Sem.run_pure, Result.ok.injEq] at hrun
                      exact ⟨_, hrun.1.symm⟩
                    · cases hp'
                  case call c =>
                    obtain ⟨⟨x, t⟩, hc⟩ := Option.isSome_iff_exists.1 (show (lenCall c).isSome = true from hk)
                    have hc' := lenCall_spec hc
                    subst hc'
                    refine fromVal (s := Builtin.len_ #[t] type #[a.eval x]) ?_
                    rw [← hrun]
                    simp only [execOp, resolve, invoke, builtin, Sem.run_bind, Sem.run_pure, Result.andThen_ok, List.map_toArray, List.map_cons, List.map_nil]
                obtain ⟨v, rfl⟩ := hval
                simp only [Oper.upon] at h
                exact ⟨v, .inl ⟨hw, fun w2 hw2 => hall w2 hw2⟩, h.2⟩
            · exact hx.elim
          · rw [if_neg hw] at h
            exact ⟨undef, .inr ⟨by simpa using hw, rfl⟩, h.2⟩
        obtain ⟨v, hy, hX⟩ := key
        exact take_first ho hsel hblk hin hdone r.len listed a w inv (fun j oj hj hne hun hno => Region.free_spec ho hB1.2 j oj hj hne hun hno) hr hy (Ext.refl w)
          (wpAnyC_of_G hsel hblk r _ _ w (inv.set hr hin) hB2 hX)
      · rw [if_neg hk] at hB1 h
        have hready : Region.ready md ops listed = [i] := by simpa using hB1
        have hr : i ∈ Region.ready md ops listed := by rw [hready]; simp
        refine ⟨Ext.refl w, by rw [hready]; simp, fun j hj => ?_⟩
        rw [hready] at hj
        have hji : j = i := by simpa using hj
        subst hji
        exact ⟨hin, wpOp_of_stopG ho (fun a' w' hs => wpAnyC_mono (fun w2 h2 => hs.1.trans h2) _ _ _ _ (wpAnyC_of_G hsel hblk r _ a' w' (inv.set hr hin) hB2 hs.2)) h⟩
  | .act i r, listed, a, w, inv, hB, h => by
    simp only [headG, Bool.and_eq_true, decide_eq_true_eq] at hB
    obtain ⟨⟨hin, hready⟩, hB2⟩ := hB
    cases ho : ops[i]? with
    | none => simp only [wpG, ho] at h
    | some o =>
      simp only [wpG, ho] at h
      have hr : i ∈ Region.ready md ops listed := by rw [hready]; simp
      refine ⟨Ext.refl w, by rw [hready]; simp, fun j hj => ?_⟩
      rw [hready] at hj
      have hji : j = i := by simpa using hj
      subst hji
      exact ⟨hin, wpOp_of_stopG ho (fun a' w' hs => wpAnyC_mono (fun w2 h2 => hs.1.trans h2) _ _ _ _ (wpAnyC_of_G hsel hblk r _ a' w' (inv.set hr hin) hB2 hs.2)) h⟩

theorem wp_region_g {id : Nat} {Q : Exit → Act → World → Prop} {a : Act} {w : World} {l : List Oper} (n : Nat) (r : HG) (hm : P.follows .mixedOrders = true) (hB : headBG P .any l.toArray n r = true)
    (h : wpG P l.toArray Q (l.drop n) r a w.drew) : (Code.region id l.toArray true).wp P Q a w := by
  simp only [headBG, Bool.and_eq_true, Bool.or_eq_true, decide_eq_true_eq] at hB
  obtain ⟨⟨⟨hsel, hcut⟩, hlen⟩, hsim⟩ := hB
  have hnl : n ≤ l.length := by
    rcases hcut with h1 | h1
    · simp at h1; omega
    · have := h1.1.1; simp at this; omega
  have hblk : Blocks .any l.toArray n := by
    rcases hcut with h1 | h1
    · intro listed _ i _ _ t ht
      obtain ⟨_, o, ho, _⟩ := mem_ready.1 ht
      have := (Array.getElem?_eq_some_iff.1 ho).1
      omega
    · intro listed inv i hin hun t ht
      rcases Nat.lt_or_ge t n with h2 | h2
      · exact h2
      · exact absurd ht (tail_waits h1.1.2 h1.2 h1.1.1 inv _ i rfl hin hun t h2)
  have inv0 : HeadInv .any l.toArray n (Array.replicate l.toArray.size false) :=
    ⟨by simp, fun j oj _ hl => (by rw [getD_replicate_false] at hl; cases hl), fun t _ ht => getD_in (by simpa using ht) (getD_replicate_false _ _)⟩
  have h1 := wpAnyC_of_G (P := P) (Region.noSelect_spec hsel) hblk r _ a w.drew inv0 hsim h
  have hdl : (l.drop n).length = l.toArray.size - n := by simp
  have h2 := wpAny_of_C (Q := Q) (g := l.toArray.size - n) (fun listed' a' w' hx => by
    rw [← hdl]
    refine wpAny_of_seq (l.drop n) n listed' a' w' (fun j => by simp [List.getElem?_drop]) ?_ hx.2
    rw [hdl]
    exact hx.1) r.len _ a w.drew h1
  refine wp_region_any hm ?_
  rw [show l.toArray.size = r.len + (l.toArray.size - n) by simp; omega]
  rw [show r.len + (l.toArray.size - n) = l.toArray.size by simp; omega]
  rw [show r.len + (l.toArray.size - n) = l.toArray.size by simp; omega] at h2
  exact h2
theorem wp_joinG {c : Code} {Q : Exit → Act → World → Prop} {a : Act} {w : World} (J : Act → Act → World → Prop) (h1 : c.wp P (fun e a' w' => e = .normal ∧ J a a' w') a w) (h2 : ∀ a' w', J a a' w' → Q .normal a' w') : c.wp P Q a w :=
  Code.wp_mono (Q := fun e a' w' => e = .normal ∧ J a a' w') (by rintro e a' w' ⟨rfl, h⟩; exact h2 a' w' h) h1
end
end Go.Proofs.YtonaacdefidomaaGreat
namespace Go.Proofs.YtonaacdefidomaaGreat
open Go.RowKit


theorem clash_comm (a b : CmdD) : clashB a b = clashB b a := by
  have e : (a.set == b.set) = (b.set == a.set) := by rw [Bool.eq_iff_iff, beq_iff_eq, beq_iff_eq]; exact eq_comm
  simp only [clashB, e]
  cases cmdOkB a <;> cases cmdOkB b <;> cases (a.kind == 0) <;> cases (b.kind == 0) <;> cases (a.kind == 7) <;> cases (b.kind == 7) <;> rfl
noncomputable def keepB (id : IdD) (c : CmdD) (x : InstD) : Bool := !(decide (x.id = id)) && (!(x.status == 0) && clashB c x.cmd)
noncomputable def depsL (id : IdD) (c : CmdD) (xs : List InstD) : List IdD := (xs.filter (keepB id c)).map InstD.id
noncomputable def seqL (id : IdD) (c : CmdD) (xs : List InstD) : Int := xs.foldl (fun s x => if keepB id c x = true then max s x.seq else s) 0
theorem depsL_yes {id : IdD} {c : CmdD} {xs : List InstD} {j : Nat} (hj : j < xs.length) (h : keepB id c xs[j] = true) : depsL id c (xs.take (j + 1)) = depsL id c (xs.take j) ++ [xs[j].id] := by
  rw [List.take_succ_eq_append_getElem hj, depsL, List.filter_append, List.map_append]
  simp [depsL, h]
theorem depsL_no {id : IdD} {c : CmdD} {xs : List InstD} {j : Nat} (hj : j < xs.length) (h : keepB id c xs[j] = false) : depsL id c (xs.take (j + 1)) = depsL id c (xs.take j) := by
  rw [List.take_succ_eq_append_getElem hj, depsL, List.filter_append, List.map_append]
  simp [depsL, h]
theorem seqL_yes {id : IdD} {c : CmdD} {xs : List InstD} {j : Nat} (hj : j < xs.length) (h : keepB id c xs[j] = true) : seqL id c (xs.take (j + 1)) = max (seqL id c (xs.take j)) xs[j].seq := by
  rw [List.take_succ_eq_append_getElem hj, seqL, List.foldl_append]
  simp [seqL, h]
theorem seqL_no {id : IdD} {c : CmdD} {xs : List InstD} {j : Nat} (hj : j < xs.length) (h : keepB id c xs[j] = false) : seqL id c (xs.take (j + 1)) = seqL id c (xs.take j) := by
  rw [List.take_succ_eq_append_getElem hj, seqL, List.foldl_append]
  simp [seqL, h]
theorem depsL_len (id : IdD) (c : CmdD) (xs : List InstD) : (depsL id c xs).length ≤ xs.length := by
  rw [depsL, List.length_map]
  exact List.length_filter_le _ _
noncomputable def fAttrsOf (xs : List InstD) (id : IdD) (c : CmdD) : Int × List IdD := if instsOkB xs = true then (seqL id c xs + 1, depsL id c xs) else (0, [])
theorem bAttrsOf (xs : List InstD) (id : IdD) (c : CmdD) (h : xs.length + (cat InstD.c xs).wt ≤ 1048576) (_ : id.c.wt ≤ 1048576) (_ : c.c.wt ≤ 1048576) :
    (fAttrsOf xs id c).2.length + (cat IdD.c (fAttrsOf xs id c).2).wt ≤ 4611686018427387 ∧ cts IdD.cnt (fAttrsOf xs id c).2 ≤ 4611686018427387 := by
  have hl : (fAttrsOf xs id c).2.length ≤ xs.length := by
    unfold fAttrsOf
    split
    · exact depsL_len _ _ _
    · exact Nat.zero_le _
  generalize (fAttrsOf xs id c).2 = l at hl
  have h1 : (cat IdD.c l).wt = 0 := cat_wt0 (fun _ => rfl) l
  have h2 : cts IdD.cnt l = 2 * l.length := by
    clear hl h1
    induction l with
    | nil => rfl
    | cons x r ih => rw [List.length_cons, cts]; first | (rw [ih]; show 2 + _ = _; omega) | (simp [cts, IdD.cnt] at *; omega)
  omega

def idCells : List IdD → List Value
  | [] => []
  | s :: r => .int .i64 s.rep :: .int .i64 s.slot :: idCells r
theorem idCells_length : ∀ xs : List IdD, (idCells xs).length = xs.length * 2
  | [] => rfl
  | s :: r => by rw [idCells, List.length_cons, List.length_cons, idCells_length r, List.length_cons]; omega
theorem idCells_app : ∀ a b : List IdD, idCells (a ++ b) = idCells a ++ idCells b
  | [], _ => rfl
  | s :: r, b => by rw [List.cons_append, idCells, idCells, idCells_app r b]; rfl
theorem own_ids (w : World) (base : Nat) : ∀ xs : List IdD, Own w base (cat IdD.c xs) (idCells xs) []
  | [] => Own.nil.2 ⟨rfl, rfl⟩
  | s :: r => by
    rw [cat_cons]
    exact Own.app.2 ⟨[_, _], idCells r, [], [], rfl, rfl, IdD.shutO (x := s), own_ids w base r⟩

theorem insts_seq {xs : List InstD} (h : instsOkB xs = true) (j : Nat) (hj : j < xs.length) : 0 ≤ xs[j].seq ∧ xs[j].seq ≤ 60 := by
  have h1 : instsGood xs xs.length := by simpa [instsOkB] using h
  obtain ⟨x, hx, hok, _⟩ := h1 j hj
  rw [List.getElem?_eq_getElem hj] at hx
  injection hx with hx
  rw [hx]
  simp only [instOkB, Bool.and_eq_true] at hok
  have h6 := hok.2.2.2.2.2.1
  simpa [inB] using h6
theorem seqL_range {xs : List InstD} (h : instsOkB xs = true) (id : IdD) (c : CmdD) : ∀ j, j ≤ xs.length → 0 ≤ seqL id c (xs.take j) ∧ seqL id c (xs.take j) ≤ 60
  | 0, _ => by simp [seqL]
  | j + 1, hj => by
    have ih := seqL_range h id c j (by omega)
    have hs := insts_seq h j (by omega)
    cases hk : keepB id c xs[j]
    · rw [seqL_no (by omega) hk]; exact ih
    · rw [seqL_yes (by omega) hk]; omega

end Go.Proofs.YtonaacdefidomaaGreat
