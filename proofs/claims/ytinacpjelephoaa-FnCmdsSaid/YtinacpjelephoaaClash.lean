/-
  Commands that clash: impl.Clash and spec.Clash. Conditions: a bound on the sizes.
-/
import Derived.Test.YtinacpjelephoaaCmdOk
namespace Go.Proofs.Ytinacpjelephoaa
open Go.RowKit

def clashB (a b : CmdD) : Bool := cmdOkB a && (cmdOkB b && (!(a.kind == 0) && (!(b.kind == 0) && (a.kind == 7 || (b.kind == 7 || a.set == b.set)))))


set_option maxRecDepth 100000 in
set_option maxHeartbeats 4000000 in
theorem iClash_any (x y : CmdD) (cs cs' : List Value) (w : World) (hwt : x.c.wt ≤ 1048576) (hwt' : y.c.wt ≤ 1048576) (h : Rep anyB w x.c cs) (h' : Rep anyB w y.c cs') :
    Calls Try.prog 26 #[.agg cs.toArray, .agg cs'.toArray] w fun e w' => e = .returned (.bool (clashB x y)) ∧ Below w.heap.size w w' := by
  have HA := Lib.hid h
  have HB := Lib.hid h'
  obtain ⟨A0, k0, rfl, _⟩ := CmdD.open h
  obtain ⟨A1, k1, rfl, _⟩ := CmdD.open h'
  obtain ⟨a0, a1, a2, a3, a4, a5, a6, a7⟩ := x
  obtain ⟨b0, b1, b2, b3, b4, b5, b6, b7⟩ := y
  simp only [] at HA HB ⊢
  have HW := Lib.hid hwt
  have HW' := Lib.hid hwt'
  clear h h' hwt hwt'
  obtain ⟨R, hR⟩ : ∃ R, R = clashB ⟨a0, a1, a2, a3, a4, a5, a6, a7⟩ ⟨b0, b1, b2, b3, b4, b5, b6, b7⟩ := ⟨_, rfl⟩
  rw [← hR]
  rw [clashB] at hR
  simp only [] at hR
  have HR := Lib.hid hR; clear hR
  go_enter Try.func26, Try.ntmps26
  go_wp2_with fail
  refine (iCmdOk_any ⟨a0, a1, a2, a3, a4, a5, a6, a7⟩ _ _ HW.out (HA.out.below (by repeat' (first | with_reducible exact Below.refl _ _ | with_reducible exact BW.out | with_reducible refine Below.setCell ?_ ?_ _ | with_reducible refine Below.alloc ?_ ?_ _ | with_reducible refine Below.drew ?_ | (simp; done) | (simp; omega) | omega)))).mono ?_; rintro e v1 ⟨rfl, hb⟩
  have SB := Lib.hid (Blk.below (blk2_0 _ _ _ _) hb)
  have TB := Lib.hid (Blk.below (blk2_1 _ _ _ _) hb)
  have BW := Lib.hid (show Below w.heap.size w v1 from Below.trans (by repeat' (first | with_reducible exact Below.refl _ _ | with_reducible exact BW.out | with_reducible refine Below.setCell ?_ ?_ _ | with_reducible refine Below.alloc ?_ ?_ _ | with_reducible refine Below.drew ?_ | (simp; done) | (simp; omega) | omega)) (hb.mono (by first | (simp; done) | (simp; omega) | omega))); clear hb
  cases hx : cmdOkB ⟨a0, a1, a2, a3, a4, a5, a6, a7⟩
  case false =>
    go_wp2
    go_ret
    exact ⟨ret_eq (by rw [HR.out, hx]; rfl), BW.out⟩
  case true =>
    go_wp2_with (first | (refine wpList_load_row_g _ (by first | rfl | kernel_rfl) ⟨w.heap.size + 1, 0, none⟩ rfl [.int .i64 b0, .int .i64 b1, .int .i64 b2, .string (bs b3), .string (bs b4), .string (bs b5), .int .i64 b6, .slice A1 b7.length k1] agg_Cmd rfl (blk_cells TB.out) ?_) | fail)
    refine (iCmdOk_any ⟨b0, b1, b2, b3, b4, b5, b6, b7⟩ _ _ HW'.out (HB.out.below BW.out)).mono ?_; rintro e v2 ⟨rfl, hb⟩
    have SB' := Lib.hid (SB.out.below hb); clear SB
    have SB := Lib.hid SB'.out; clear SB'
    have TB' := Lib.hid (TB.out.below hb); clear TB
    have TB := Lib.hid TB'.out; clear TB'
    have BW' := Lib.hid (show Below w.heap.size w v2 from BW.out.trans (hb.mono BW.out.size)); clear BW
    have BW := Lib.hid BW'.out; clear BW' hb
    have hs0 : World.cell? v2 ⟨w.heap.size, 0, none⟩ = some (.int .i64 a0) := blk_cell0 (L := [.int .i64 a0, .int .i64 a1, .int .i64 a2, .string (bs a3), .string (bs a4), .string (bs a5), .int .i64 a6, .slice A0 a7.length k0]) SB.out 0 rfl
    have ht0 : World.cell? v2 ⟨w.heap.size + 1, 0, none⟩ = some (.int .i64 b0) := blk_cell0 (L := [.int .i64 b0, .int .i64 b1, .int .i64 b2, .string (bs b3), .string (bs b4), .string (bs b5), .int .i64 b6, .slice A1 b7.length k1]) TB.out 0 rfl
    have hs1 : World.cell? v2 ⟨w.heap.size, 1, none⟩ = some (.int .i64 a1) := blk_cell0 (L := [.int .i64 a0, .int .i64 a1, .int .i64 a2, .string (bs a3), .string (bs a4), .string (bs a5), .int .i64 a6, .slice A0 a7.length k0]) SB.out 1 rfl
    have ht1 : World.cell? v2 ⟨w.heap.size + 1, 1, none⟩ = some (.int .i64 b1) := blk_cell0 (L := [.int .i64 b0, .int .i64 b1, .int .i64 b2, .string (bs b3), .string (bs b4), .string (bs b5), .int .i64 b6, .slice A1 b7.length k1]) TB.out 1 rfl
    have hs2 : World.cell? v2 ⟨w.heap.size, 2, none⟩ = some (.int .i64 a2) := blk_cell0 (L := [.int .i64 a0, .int .i64 a1, .int .i64 a2, .string (bs a3), .string (bs a4), .string (bs a5), .int .i64 a6, .slice A0 a7.length k0]) SB.out 2 rfl
    have ht2 : World.cell? v2 ⟨w.heap.size + 1, 2, none⟩ = some (.int .i64 b2) := blk_cell0 (L := [.int .i64 b0, .int .i64 b1, .int .i64 b2, .string (bs b3), .string (bs b4), .string (bs b5), .int .i64 b6, .slice A1 b7.length k1]) TB.out 2 rfl
    have hs3 : World.cell? v2 ⟨w.heap.size, 3, none⟩ = some (.string (bs a3)) := blk_cell0 (L := [.int .i64 a0, .int .i64 a1, .int .i64 a2, .string (bs a3), .string (bs a4), .string (bs a5), .int .i64 a6, .slice A0 a7.length k0]) SB.out 3 rfl
    have ht3 : World.cell? v2 ⟨w.heap.size + 1, 3, none⟩ = some (.string (bs b3)) := blk_cell0 (L := [.int .i64 b0, .int .i64 b1, .int .i64 b2, .string (bs b3), .string (bs b4), .string (bs b5), .int .i64 b6, .slice A1 b7.length k1]) TB.out 3 rfl
    have hs4 : World.cell? v2 ⟨w.heap.size, 4, none⟩ = some (.string (bs a4)) := blk_cell0 (L := [.int .i64 a0, .int .i64 a1, .int .i64 a2, .string (bs a3), .string (bs a4), .string (bs a5), .int .i64 a6, .slice A0 a7.length k0]) SB.out 4 rfl
    have ht4 : World.cell? v2 ⟨w.heap.size + 1, 4, none⟩ = some (.string (bs b4)) := blk_cell0 (L := [.int .i64 b0, .int .i64 b1, .int .i64 b2, .string (bs b3), .string (bs b4), .string (bs b5), .int .i64 b6, .slice A1 b7.length k1]) TB.out 4 rfl
    have hs5 : World.cell? v2 ⟨w.heap.size, 5, none⟩ = some (.string (bs a5)) := blk_cell0 (L := [.int .i64 a0, .int .i64 a1, .int .i64 a2, .string (bs a3), .string (bs a4), .string (bs a5), .int .i64 a6, .slice A0 a7.length k0]) SB.out 5 rfl
    have ht5 : World.cell? v2 ⟨w.heap.size + 1, 5, none⟩ = some (.string (bs b5)) := blk_cell0 (L := [.int .i64 b0, .int .i64 b1, .int .i64 b2, .string (bs b3), .string (bs b4), .string (bs b5), .int .i64 b6, .slice A1 b7.length k1]) TB.out 5 rfl
    have hs6 : World.cell? v2 ⟨w.heap.size, 6, none⟩ = some (.int .i64 a6) := blk_cell0 (L := [.int .i64 a0, .int .i64 a1, .int .i64 a2, .string (bs a3), .string (bs a4), .string (bs a5), .int .i64 a6, .slice A0 a7.length k0]) SB.out 6 rfl
    have ht6 : World.cell? v2 ⟨w.heap.size + 1, 6, none⟩ = some (.int .i64 b6) := blk_cell0 (L := [.int .i64 b0, .int .i64 b1, .int .i64 b2, .string (bs b3), .string (bs b4), .string (bs b5), .int .i64 b6, .slice A1 b7.length k1]) TB.out 6 rfl
    have hs7 : World.cell? v2 ⟨w.heap.size, 7, none⟩ = some (.slice A0 a7.length k0) := blk_cell0 (L := [.int .i64 a0, .int .i64 a1, .int .i64 a2, .string (bs a3), .string (bs a4), .string (bs a5), .int .i64 a6, .slice A0 a7.length k0]) SB.out 7 rfl
    have ht7 : World.cell? v2 ⟨w.heap.size + 1, 7, none⟩ = some (.slice A1 b7.length k1) := blk_cell0 (L := [.int .i64 b0, .int .i64 b1, .int .i64 b2, .string (bs b3), .string (bs b4), .string (bs b5), .int .i64 b6, .slice A1 b7.length k1]) TB.out 7 rfl
    cases hy : cmdOkB ⟨b0, b1, b2, b3, b4, b5, b6, b7⟩
    all_goals go_wp2
    all_goals (go_ret; exact ⟨ret_eq (congrArg Value.bool (by rw [HR.out, hx, hy]; clear HR HA HB HW HW' SB TB BW; rw [Bool.eq_iff_iff]; first | (simp [*]; done) | (simp [*, or_assoc]; done) | (simp_all; done))), BW.out⟩)


set_option maxRecDepth 100000 in
set_option maxHeartbeats 4000000 in
theorem sClash_any (x y : CmdD) (cs cs' : List Value) (w : World) (hwt : x.c.wt ≤ 1048576) (hwt' : y.c.wt ≤ 1048576) (h : Rep anyB w x.c cs) (h' : Rep anyB w y.c cs') :
    Calls Try.prog 27 #[.agg cs.toArray, .agg cs'.toArray] w fun e w' => e = .returned (.bool (clashB x y)) ∧ Below w.heap.size w w' := by
  have HA := Lib.hid h
  have HB := Lib.hid h'
  obtain ⟨A0, k0, rfl, _⟩ := CmdD.open h
  obtain ⟨A1, k1, rfl, _⟩ := CmdD.open h'
  obtain ⟨a0, a1, a2, a3, a4, a5, a6, a7⟩ := x
  obtain ⟨b0, b1, b2, b3, b4, b5, b6, b7⟩ := y
  simp only [] at HA HB ⊢
  have HW := Lib.hid hwt
  have HW' := Lib.hid hwt'
  clear h h' hwt hwt'
  obtain ⟨R, hR⟩ : ∃ R, R = clashB ⟨a0, a1, a2, a3, a4, a5, a6, a7⟩ ⟨b0, b1, b2, b3, b4, b5, b6, b7⟩ := ⟨_, rfl⟩
  rw [← hR]
  rw [clashB] at hR
  simp only [] at hR
  have HR := Lib.hid hR; clear hR
  go_enter Try.func27, Try.ntmps27
  go_wp2_with fail
  refine (sCmdOk_any ⟨a0, a1, a2, a3, a4, a5, a6, a7⟩ _ _ HW.out (HA.out.below (by repeat' (first | with_reducible exact Below.refl _ _ | with_reducible exact BW.out | with_reducible refine Below.setCell ?_ ?_ _ | with_reducible refine Below.alloc ?_ ?_ _ | with_reducible refine Below.drew ?_ | (simp; done) | (simp; omega) | omega)))).mono ?_; rintro e v1 ⟨rfl, hb⟩
  have SB := Lib.hid (Blk.below (blk2_0 _ _ _ _) hb)
  have TB := Lib.hid (Blk.below (blk2_1 _ _ _ _) hb)
  have BW := Lib.hid (show Below w.heap.size w v1 from Below.trans (by repeat' (first | with_reducible exact Below.refl _ _ | with_reducible exact BW.out | with_reducible refine Below.setCell ?_ ?_ _ | with_reducible refine Below.alloc ?_ ?_ _ | with_reducible refine Below.drew ?_ | (simp; done) | (simp; omega) | omega)) (hb.mono (by first | (simp; done) | (simp; omega) | omega))); clear hb
  cases hx : cmdOkB ⟨a0, a1, a2, a3, a4, a5, a6, a7⟩
  case false =>
    go_wp2
    go_ret
    exact ⟨ret_eq (by rw [HR.out, hx]; rfl), BW.out⟩
  case true =>
    go_wp2_with (first | (refine wpList_load_row_g _ (by first | rfl | kernel_rfl) ⟨w.heap.size + 1, 0, none⟩ rfl [.int .i64 b0, .int .i64 b1, .int .i64 b2, .string (bs b3), .string (bs b4), .string (bs b5), .int .i64 b6, .slice A1 b7.length k1] agg_Cmd rfl (blk_cells TB.out) ?_) | fail)
    refine (sCmdOk_any ⟨b0, b1, b2, b3, b4, b5, b6, b7⟩ _ _ HW'.out (HB.out.below BW.out)).mono ?_; rintro e v2 ⟨rfl, hb⟩
    have SB' := Lib.hid (SB.out.below hb); clear SB
    have SB := Lib.hid SB'.out; clear SB'
    have TB' := Lib.hid (TB.out.below hb); clear TB
    have TB := Lib.hid TB'.out; clear TB'
    have BW' := Lib.hid (show Below w.heap.size w v2 from BW.out.trans (hb.mono BW.out.size)); clear BW
    have BW := Lib.hid BW'.out; clear BW' hb
    have hs0 : World.cell? v2 ⟨w.heap.size, 0, none⟩ = some (.int .i64 a0) := blk_cell0 (L := [.int .i64 a0, .int .i64 a1, .int .i64 a2, .string (bs a3), .string (bs a4), .string (bs a5), .int .i64 a6, .slice A0 a7.length k0]) SB.out 0 rfl
    have ht0 : World.cell? v2 ⟨w.heap.size + 1, 0, none⟩ = some (.int .i64 b0) := blk_cell0 (L := [.int .i64 b0, .int .i64 b1, .int .i64 b2, .string (bs b3), .string (bs b4), .string (bs b5), .int .i64 b6, .slice A1 b7.length k1]) TB.out 0 rfl
    have hs1 : World.cell? v2 ⟨w.heap.size, 1, none⟩ = some (.int .i64 a1) := blk_cell0 (L := [.int .i64 a0, .int .i64 a1, .int .i64 a2, .string (bs a3), .string (bs a4), .string (bs a5), .int .i64 a6, .slice A0 a7.length k0]) SB.out 1 rfl
    have ht1 : World.cell? v2 ⟨w.heap.size + 1, 1, none⟩ = some (.int .i64 b1) := blk_cell0 (L := [.int .i64 b0, .int .i64 b1, .int .i64 b2, .string (bs b3), .string (bs b4), .string (bs b5), .int .i64 b6, .slice A1 b7.length k1]) TB.out 1 rfl
    have hs2 : World.cell? v2 ⟨w.heap.size, 2, none⟩ = some (.int .i64 a2) := blk_cell0 (L := [.int .i64 a0, .int .i64 a1, .int .i64 a2, .string (bs a3), .string (bs a4), .string (bs a5), .int .i64 a6, .slice A0 a7.length k0]) SB.out 2 rfl
    have ht2 : World.cell? v2 ⟨w.heap.size + 1, 2, none⟩ = some (.int .i64 b2) := blk_cell0 (L := [.int .i64 b0, .int .i64 b1, .int .i64 b2, .string (bs b3), .string (bs b4), .string (bs b5), .int .i64 b6, .slice A1 b7.length k1]) TB.out 2 rfl
    have hs3 : World.cell? v2 ⟨w.heap.size, 3, none⟩ = some (.string (bs a3)) := blk_cell0 (L := [.int .i64 a0, .int .i64 a1, .int .i64 a2, .string (bs a3), .string (bs a4), .string (bs a5), .int .i64 a6, .slice A0 a7.length k0]) SB.out 3 rfl
    have ht3 : World.cell? v2 ⟨w.heap.size + 1, 3, none⟩ = some (.string (bs b3)) := blk_cell0 (L := [.int .i64 b0, .int .i64 b1, .int .i64 b2, .string (bs b3), .string (bs b4), .string (bs b5), .int .i64 b6, .slice A1 b7.length k1]) TB.out 3 rfl
    have hs4 : World.cell? v2 ⟨w.heap.size, 4, none⟩ = some (.string (bs a4)) := blk_cell0 (L := [.int .i64 a0, .int .i64 a1, .int .i64 a2, .string (bs a3), .string (bs a4), .string (bs a5), .int .i64 a6, .slice A0 a7.length k0]) SB.out 4 rfl
    have ht4 : World.cell? v2 ⟨w.heap.size + 1, 4, none⟩ = some (.string (bs b4)) := blk_cell0 (L := [.int .i64 b0, .int .i64 b1, .int .i64 b2, .string (bs b3), .string (bs b4), .string (bs b5), .int .i64 b6, .slice A1 b7.length k1]) TB.out 4 rfl
    have hs5 : World.cell? v2 ⟨w.heap.size, 5, none⟩ = some (.string (bs a5)) := blk_cell0 (L := [.int .i64 a0, .int .i64 a1, .int .i64 a2, .string (bs a3), .string (bs a4), .string (bs a5), .int .i64 a6, .slice A0 a7.length k0]) SB.out 5 rfl
    have ht5 : World.cell? v2 ⟨w.heap.size + 1, 5, none⟩ = some (.string (bs b5)) := blk_cell0 (L := [.int .i64 b0, .int .i64 b1, .int .i64 b2, .string (bs b3), .string (bs b4), .string (bs b5), .int .i64 b6, .slice A1 b7.length k1]) TB.out 5 rfl
    have hs6 : World.cell? v2 ⟨w.heap.size, 6, none⟩ = some (.int .i64 a6) := blk_cell0 (L := [.int .i64 a0, .int .i64 a1, .int .i64 a2, .string (bs a3), .string (bs a4), .string (bs a5), .int .i64 a6, .slice A0 a7.length k0]) SB.out 6 rfl
    have ht6 : World.cell? v2 ⟨w.heap.size + 1, 6, none⟩ = some (.int .i64 b6) := blk_cell0 (L := [.int .i64 b0, .int .i64 b1, .int .i64 b2, .string (bs b3), .string (bs b4), .string (bs b5), .int .i64 b6, .slice A1 b7.length k1]) TB.out 6 rfl
    have hs7 : World.cell? v2 ⟨w.heap.size, 7, none⟩ = some (.slice A0 a7.length k0) := blk_cell0 (L := [.int .i64 a0, .int .i64 a1, .int .i64 a2, .string (bs a3), .string (bs a4), .string (bs a5), .int .i64 a6, .slice A0 a7.length k0]) SB.out 7 rfl
    have ht7 : World.cell? v2 ⟨w.heap.size + 1, 7, none⟩ = some (.slice A1 b7.length k1) := blk_cell0 (L := [.int .i64 b0, .int .i64 b1, .int .i64 b2, .string (bs b3), .string (bs b4), .string (bs b5), .int .i64 b6, .slice A1 b7.length k1]) TB.out 7 rfl
    cases hy : cmdOkB ⟨b0, b1, b2, b3, b4, b5, b6, b7⟩
    all_goals go_wp2
    all_goals (go_ret; exact ⟨ret_eq (congrArg Value.bool (by rw [HR.out, hx, hy]; clear HR HA HB HW HW' SB TB BW; rw [Bool.eq_iff_iff]; first | (simp [*]; done) | (simp [*, or_assoc]; done) | (simp_all; done))), BW.out⟩)


attribute [irreducible] clashB

end Go.Proofs.Ytinacpjelephoaa
