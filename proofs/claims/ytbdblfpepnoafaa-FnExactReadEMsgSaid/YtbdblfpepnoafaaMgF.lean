/-
  A message read: impl.ReadEMsg. Condition: a bound on the size.
  A message read by places: spec.ReadEMsg. Condition: a bound on the size.
-/
import Derived.Test.YtbdblfpepnoafaaMgE
import Derived.Test.YtbdblfpepnoafaaShE
namespace Go.Proofs.Ytbdblfpepnoafaa
open Go.RowKit

theorem zeroE_mine (w : World) (base : Nat) : Mine w base zeroE.c [.int .i64 0, .int .i64 0, .int .i64 0, .int .i64 0, .int .i64 0, .int .i64 0, .int .i64 0, .int .i64 0, .int .i64 0, .string (bs []), .string (bs []), .string (bs []), .int .i64 0, .slice none 0 0, .int .i64 0, .slice none 0 0, .int .i64 0, .int .i64 0, .bool false] :=
  ⟨[], List.nodup_nil, EMsgD.shutO (x := zeroE) (F0 := []) (F1 := []) (Own.sl_none _ rfl) (Own.sl_none _ rfl)⟩
theorem parseE_eq {s : List UInt8} {n1 n2 n3 n4 n5 n6 n7 n8 n9 n12 : Nat} {t10 t11 r1 r2 r3 r4 r5 r6 r7 r8 r9 r10 r11 r12 r13 : List UInt8} {b1 b2 b3 b4 b5 b6 b7 b8 b9 b10 b11 b12 b13 : Bool} {N : Nat} {acc : List IdD}
    (h1 : scanNum s false = (n1, r1, b1)) (h2 : scanNum r1 b1 = (n2, r2, b2)) (h3 : scanNum r2 b2 = (n3, r3, b3)) (h4 : scanNum r3 b3 = (n4, r4, b4)) (h5 : scanNum r4 b4 = (n5, r5, b5)) (h6 : scanNum r5 b5 = (n6, r6, b6)) (h7 : scanNum r6 b6 = (n7, r7, b7)) (h8 : scanNum r7 b7 = (n8, r8, b8)) (h9 : scanNum r8 b8 = (n9, r9, b9))
    (h10 : scanCut r9 b9 1 = (t10, r10, b10)) (h11 : scanText r10 b10 = (t11, r11, b11)) (h12 : scanNum r11 b11 = (n12, r12, b12))
    (hN : N = if n12 ≤ 18 then n12 else 0) (h13 : pairsL N r12 b12 = (acc, r13, b13)) : parseE s = (⟨(n1 : Int), (n2 : Int), (n3 : Int), ⟨(n4 : Int), (n5 : Int)⟩, (n6 : Int), (fReadCmd t11).1, (n9 : Int), acc, (n7 : Int), (n8 : Int) - 1, t10 == [1]⟩, b13) := by
  unfold parseE
  simp only [h1, h2, h3, h4, h5, h6, h7, h8, h9, h10, h11, h12]
  split
  · rename_i h
    rw [if_pos h] at hN
    subst hN
    rw [h13]
  · rename_i h
    rw [if_neg h] at hN
    subst hN
    rw [pairsL] at h13
    injection h13 with e1 e2
    injection e2 with e2 e3
    subst e1 e3
    rfl

set_option maxRecDepth 100000 in
set_option maxHeartbeats 16000000 in
theorem iReadEMsg_any (s : List UInt8) (w : World) (hs : s.length ≤ 1048576) :
    Calls Try.prog 25 #[.string (bs s)] w fun e w' => ∃ cs', e = .returned (.tuple #[.agg cs'.toArray, .bool (fReadEMsg s).2]) ∧ Mine w' w.heap.size (fReadEMsg s).1.c cs' ∧ Below w.heap.size w w' := by
  obtain ⟨R, hR⟩ : ∃ R, R = fReadEMsg s := ⟨_, rfl⟩
  rw [← hR]
  have HR := Lib.hid hR; clear hR
  obtain ⟨n1, r1, b1, h1⟩ : ∃ a b c, scanNum s false = (a, b, c) := ⟨_, _, _, rfl⟩
  have l1 := (scanNum_len s false).1
  have m1 := (scanNum_len s false).2
  rw [h1] at l1 m1
  simp only [] at l1 m1
  have l1' : r1.length ≤ 1048576 := by omega
  clear l1
  obtain ⟨n2, r2, b2, h2⟩ : ∃ a b c, scanNum r1 b1 = (a, b, c) := ⟨_, _, _, rfl⟩
  have l2 := (scanNum_len r1 b1).1
  have m2 := (scanNum_len r1 b1).2
  rw [h2] at l2 m2
  simp only [] at l2 m2
  have l2' : r2.length ≤ 1048576 := by omega
  clear l2
  obtain ⟨n3, r3, b3, h3⟩ : ∃ a b c, scanNum r2 b2 = (a, b, c) := ⟨_, _, _, rfl⟩
  have l3 := (scanNum_len r2 b2).1
  have m3 := (scanNum_len r2 b2).2
  rw [h3] at l3 m3
  simp only [] at l3 m3
  have l3' : r3.length ≤ 1048576 := by omega
  clear l3
  obtain ⟨n4, r4, b4, h4⟩ : ∃ a b c, scanNum r3 b3 = (a, b, c) := ⟨_, _, _, rfl⟩
  have l4 := (scanNum_len r3 b3).1
  have m4 := (scanNum_len r3 b3).2
  rw [h4] at l4 m4
  simp only [] at l4 m4
  have l4' : r4.length ≤ 1048576 := by omega
  clear l4
  obtain ⟨n5, r5, b5, h5⟩ : ∃ a b c, scanNum r4 b4 = (a, b, c) := ⟨_, _, _, rfl⟩
  have l5 := (scanNum_len r4 b4).1
  have m5 := (scanNum_len r4 b4).2
  rw [h5] at l5 m5
  simp only [] at l5 m5
  have l5' : r5.length ≤ 1048576 := by omega
  clear l5
  obtain ⟨n6, r6, b6, h6⟩ : ∃ a b c, scanNum r5 b5 = (a, b, c) := ⟨_, _, _, rfl⟩
  have l6 := (scanNum_len r5 b5).1
  have m6 := (scanNum_len r5 b5).2
  rw [h6] at l6 m6
  simp only [] at l6 m6
  have l6' : r6.length ≤ 1048576 := by omega
  clear l6
  obtain ⟨n7, r7, b7, h7⟩ : ∃ a b c, scanNum r6 b6 = (a, b, c) := ⟨_, _, _, rfl⟩
  have l7 := (scanNum_len r6 b6).1
  have m7 := (scanNum_len r6 b6).2
  rw [h7] at l7 m7
  simp only [] at l7 m7
  have l7' : r7.length ≤ 1048576 := by omega
  clear l7
  obtain ⟨n8, r8, b8, h8⟩ : ∃ a b c, scanNum r7 b7 = (a, b, c) := ⟨_, _, _, rfl⟩
  have l8 := (scanNum_len r7 b7).1
  have m8 := (scanNum_len r7 b7).2
  rw [h8] at l8 m8
  simp only [] at l8 m8
  have l8' : r8.length ≤ 1048576 := by omega
  clear l8
  obtain ⟨n9, r9, b9, h9⟩ : ∃ a b c, scanNum r8 b8 = (a, b, c) := ⟨_, _, _, rfl⟩
  have l9 := (scanNum_len r8 b8).1
  have m9 := (scanNum_len r8 b8).2
  rw [h9] at l9 m9
  simp only [] at l9 m9
  have l9' : r9.length ≤ 1048576 := by omega
  clear l9
  obtain ⟨t10, r10, b10, h10⟩ : ∃ a b c, scanCut r9 b9 1 = (a, b, c) := ⟨_, _, _, rfl⟩
  have l10 := (scanCut_len r9 b9 1).1
  have m10 := (scanCut_len r9 b9 1).2
  rw [h10] at l10 m10
  simp only [] at l10 m10
  have l10' : r10.length ≤ 1048576 := by omega
  clear l10
  have m10' : t10.length ≤ 1048576 := by omega
  clear m10
  obtain ⟨t11, r11, b11, h11⟩ : ∃ a b c, scanText r10 b10 = (a, b, c) := ⟨_, _, _, rfl⟩
  have l11 := (scanText_len r10 b10).1
  have m11 := (scanText_len r10 b10).2
  rw [h11] at l11 m11
  simp only [] at l11 m11
  have l11' : r11.length ≤ 1048576 := by omega
  clear l11
  have m11' : t11.length ≤ 1048576 := by omega
  clear m11
  obtain ⟨n12, r12, b12, h12⟩ : ∃ a b c, scanNum r11 b11 = (a, b, c) := ⟨_, _, _, rfl⟩
  have l12 := (scanNum_len r11 b11).1
  have m12 := (scanNum_len r11 b11).2
  rw [h12] at l12 m12
  simp only [] at l12 m12
  have l12' : r12.length ≤ 1048576 := by omega
  clear l12
  obtain ⟨N, hN⟩ : ∃ N, N = if n12 ≤ 18 then n12 else 0 := ⟨_, rfl⟩
  obtain ⟨acc13, r13, b13, h13⟩ : ∃ a b c, pairsL N r12 b12 = (a, b, c) := ⟨_, _, _, rfl⟩
  have hpc := parseE_eq h1 h2 h3 h4 h5 h6 h7 h8 h9 h10 h11 h12 hN h13
  have hwt := @parseE_wt s
  rw [hpc] at hwt
  simp only [] at hwt
  have HWT := Lib.hid hwt; clear hwt
  have HPC := Lib.hid hpc; clear hpc
  have hN4 : N ≤ 18 ∧ N ≤ n12 ∧ (n12 ≤ 18 → N = n12) ∧ (¬ n12 ≤ 18 → N = 0) := by rw [hN]; split <;> omega
  clear hN
  obtain ⟨hN1, hN2, hN3, hN4⟩ := hN4
  have H1 := Lib.hid h1; clear h1
  have H2 := Lib.hid h2; clear h2
  have H3 := Lib.hid h3; clear h3
  have H4 := Lib.hid h4; clear h4
  have H5 := Lib.hid h5; clear h5
  have H6 := Lib.hid h6; clear h6
  have H7 := Lib.hid h7; clear h7
  have H8 := Lib.hid h8; clear h8
  have H9 := Lib.hid h9; clear h9
  have H10 := Lib.hid h10; clear h10
  have H11 := Lib.hid h11; clear h11
  have H12 := Lib.hid h12; clear h12
  have H13 := Lib.hid h13; clear h13
  clear m1 m2 m3 m4 m5 m6 m7 m9
  go_enter Try.func25, Try.ntmps25
  go_wp2_with fail
  have HS := Lib.hid (show ScanCell ((w.alloc (.cells #[.int .i64 0, .int .i64 0, .int .i64 0, .int .i64 0, .int .i64 0, .int .i64 0, .int .i64 0, .int .i64 0, .int .i64 0, .string (bs []), .string (bs []), .string (bs []), .int .i64 0, .slice none 0 0, .int .i64 0, .slice none 0 0, .int .i64 0, .int .i64 0, .bool false] 36)).alloc (.cells #[.string (bs s), .bool false] 110)) (w.heap.size + 1) s false from blk2_1 _ _ _ _)
  have ZB := Lib.hid (show Blk ((w.alloc (.cells #[.int .i64 0, .int .i64 0, .int .i64 0, .int .i64 0, .int .i64 0, .int .i64 0, .int .i64 0, .int .i64 0, .int .i64 0, .string (bs []), .string (bs []), .string (bs []), .int .i64 0, .slice none 0 0, .int .i64 0, .slice none 0 0, .int .i64 0, .int .i64 0, .bool false] 36)).alloc (.cells #[.string (bs s), .bool false] 110)) w.heap.size 36 [.int .i64 0, .int .i64 0, .int .i64 0, .int .i64 0, .int .i64 0, .int .i64 0, .int .i64 0, .int .i64 0, .int .i64 0, .string (bs []), .string (bs []), .string (bs []), .int .i64 0, .slice none 0 0, .int .i64 0, .slice none 0 0, .int .i64 0, .int .i64 0, .bool false].toArray from blk2_0 _ _ _ _)
  have BW := Lib.hid (show Below w.heap.size w ((w.alloc (.cells #[.int .i64 0, .int .i64 0, .int .i64 0, .int .i64 0, .int .i64 0, .int .i64 0, .int .i64 0, .int .i64 0, .int .i64 0, .string (bs []), .string (bs []), .string (bs []), .int .i64 0, .slice none 0 0, .int .i64 0, .slice none 0 0, .int .i64 0, .int .i64 0, .bool false] 36)).alloc (.cells #[.string (bs s), .bool false] 110)) from (by repeat' (first | with_reducible exact Below.refl _ _ | with_reducible exact BW.out | with_reducible refine Below.setCell ?_ ?_ _ | with_reducible refine Below.alloc ?_ ?_ _ | with_reducible refine Below.drew ?_ | (simp; done) | (simp; omega) | omega)))
  have hz0 : w.heap.size + 1 + 1 ≤ (World.heap ((w.alloc (.cells #[.int .i64 0, .int .i64 0, .int .i64 0, .int .i64 0, .int .i64 0, .int .i64 0, .int .i64 0, .int .i64 0, .int .i64 0, .string (bs []), .string (bs []), .string (bs []), .int .i64 0, .slice none 0 0, .int .i64 0, .slice none 0 0, .int .i64 0, .int .i64 0, .bool false] 36)).alloc (.cells #[.string (bs s), .bool false] 110))).size := by simp
  have HZ := Lib.hid hz0; clear hz0
  refine (scanNum_any (w.heap.size + 1) s false _ (by omega) HS.out).mono ?_; rintro e v1 ⟨rfl, hs, hg⟩
  rw [H1.out] at hs ⊢
  simp only [] at hs ⊢
  clear HS
  have HS := Lib.hid hs; clear hs
  have X := Lib.hid (ZB.out.grown hg (by omega)); clear ZB
  have ZB := Lib.hid X.out; clear X
  have X := Lib.hid (Nat.le_trans HZ.out hg.size); clear HZ
  have HZ := Lib.hid X.out; clear X
  have X := Lib.hid (Below.grown BW.out hg BW.out.size (fun k hk => by injection hk with hk; omega)); clear BW hg
  have BW := Lib.hid X.out; clear X
  obtain ⟨gc, hgc⟩ : ∃ g, g = v1.heap.size := ⟨_, rfl⟩
  have HGE := Lib.hid hgc; clear hgc
  have HGC := Lib.hid (show w.heap.size + 1 + 1 ≤ gc by rw [HGE.out]; exact HZ.out)
  go_wp2_with (first | ((with_reducible show wpList _ _ _ ({ dst := _, op := Op.store 36 _ _, type := _, pos := _, after := _, guard := _ } :: _) _ _); go_must (refine wpList_store_row _ v1.heap.size 36 0 [.int .i64 (n1 : Int), .int .i64 0, .int .i64 0, .int .i64 0, .int .i64 0, .int .i64 0, .int .i64 0, .int .i64 0, .int .i64 0, .string (bs []), .string (bs []), .string (bs []), .int .i64 0, .slice none 0 0, .int .i64 0, .slice none 0 0, .int .i64 0, .int .i64 0, .bool false] [] [.int .i64 0, .int .i64 0, .int .i64 0, .int .i64 0, .int .i64 0, .int .i64 0, .int .i64 0, .int .i64 0, .int .i64 0, .string (bs []), .string (bs []), .string (bs []), .int .i64 0, .slice none 0 0, .int .i64 0, .slice none 0 0, .int .i64 0, .int .i64 0, .bool false] [] _ rfl rfl agg_EMsg (blk_new v1 _ _) rfl rfl rfl (by simp [Value.oneCell']) ?_; intro v1' hsb hsg; rw [← HGE.out] at hsb hsg ⊢; have CB := Lib.hid (show Blk v1' gc 36 [.int .i64 (n1 : Int), .int .i64 0, .int .i64 0, .int .i64 0, .int .i64 0, .int .i64 0, .int .i64 0, .int .i64 0, .int .i64 0, .string (bs []), .string (bs []), .string (bs []), .int .i64 0, .slice none 0 0, .int .i64 0, .slice none 0 0, .int .i64 0, .int .i64 0, .bool false].toArray by simpa using hsb); have X := Lib.hid (show ScanCell v1' (w.heap.size + 1) r1 b1 from ScanCell.of ((HS.out.blk.alloc _).grown hsg (fun e => by have := HGC.out; omega))); clear HS; have HS := Lib.hid X.out; clear X; have X := Lib.hid ((ZB.out.alloc _).grown hsg (fun e => by have := HGC.out; omega)); clear ZB; have ZB := Lib.hid X.out; clear X; have X := Lib.hid (Below.grown (BW.out.alloc BW.out.size _) hsg (Nat.le_trans BW.out.size (by simp)) (fun k hk => by injection hk with hk; have := HGC.out; omega)); clear BW; have BW := Lib.hid X.out; clear X; have X := Lib.hid (Nat.le_trans HZ.out (Nat.le_trans (by simp) hsg.size)); clear HZ; have HZ := Lib.hid X.out; clear X; have HGB := Lib.hid (show gc + 1 ≤ v1'.heap.size from Nat.le_trans (by rw [HGE.out]; simp) hsg.size); clear hsb hsg)) | fail)
  refine (scanNum_any (w.heap.size + 1) r1 b1 _ (by omega) HS.out).mono ?_; rintro e v2 ⟨rfl, hs, hg⟩
  rw [H2.out] at hs ⊢
  simp only [] at hs ⊢
  clear HS
  have HS := Lib.hid hs; clear hs
  have X := Lib.hid (ZB.out.grown hg (by omega)); clear ZB
  have ZB := Lib.hid X.out; clear X
  have X := Lib.hid (CB.out.grown hg (fun e => by have := HGC.out; omega)); clear CB
  have CB := Lib.hid X.out; clear X
  have X := Lib.hid (Nat.le_trans HZ.out hg.size); clear HZ
  have HZ := Lib.hid X.out; clear X
  have X := Lib.hid (Nat.le_trans HGB.out hg.size); clear HGB
  have HGB := Lib.hid X.out; clear X
  have X := Lib.hid (Below.grown BW.out hg BW.out.size (fun k hk => by injection hk with hk; omega)); clear BW hg
  have BW := Lib.hid X.out; clear X
  have hq : v2.cell? ⟨gc, 1, none⟩ = some (.int .i64 0) := blk_cell0 (L := [.int .i64 (n1 : Int), .int .i64 0, .int .i64 0, .int .i64 0, .int .i64 0, .int .i64 0, .int .i64 0, .int .i64 0, .int .i64 0, .string (bs []), .string (bs []), .string (bs []), .int .i64 0, .slice none 0 0, .int .i64 0, .slice none 0 0, .int .i64 0, .int .i64 0, .bool false]) CB.out 1 rfl
  have hfz : v2.frozen? ⟨gc, 1, none⟩ = false := CB.out.frozen 1
  go_wp2_with fail
  clear hq hfz
  have X := Lib.hid (show Blk (World.setCell v2 ⟨gc, 1, none⟩ (.int .i64 (n2 : Int))) gc 36 [.int .i64 (n1 : Int), .int .i64 (n2 : Int), .int .i64 0, .int .i64 0, .int .i64 0, .int .i64 0, .int .i64 0, .int .i64 0, .int .i64 0, .string (bs []), .string (bs []), .string (bs []), .int .i64 0, .slice none 0 0, .int .i64 0, .slice none 0 0, .int .i64 0, .int .i64 0, .bool false].toArray from blk_put0 CB.out 1 (.int .i64 (n2 : Int))); clear CB
  have CB := Lib.hid X.out; clear X
  have X := Lib.hid (ScanCell.of (Blk.setOther HS.out.blk (a := ⟨gc, 1, none⟩) (by have := HGC.out; show gc ≠ _; omega) (.int .i64 (n2 : Int)))); clear HS
  have HS := Lib.hid X.out; clear X
  have X := Lib.hid (Blk.setOther ZB.out (a := ⟨gc, 1, none⟩) (by have := HGC.out; show gc ≠ _; omega) (.int .i64 (n2 : Int))); clear ZB
  have ZB := Lib.hid X.out; clear X
  have X := Lib.hid (Below.setCell BW.out (p := ⟨gc, 1, none⟩) (by have := HGC.out; show _ ≤ gc; omega) (.int .i64 (n2 : Int))); clear BW
  have BW := Lib.hid X.out; clear X
  have X := Lib.hid (show w.heap.size + 1 + 1 ≤ (World.heap (World.setCell v2 ⟨gc, 1, none⟩ (.int .i64 (n2 : Int)))).size by rw [setCell_size]; exact HZ.out); clear HZ
  have HZ := Lib.hid X.out; clear X
  have X := Lib.hid (show gc + 1 ≤ (World.heap (World.setCell v2 ⟨gc, 1, none⟩ (.int .i64 (n2 : Int)))).size by rw [setCell_size]; exact HGB.out); clear HGB
  have HGB := Lib.hid X.out; clear X
  refine (scanNum_any (w.heap.size + 1) r2 b2 _ (by omega) HS.out).mono ?_; rintro e v3 ⟨rfl, hs, hg⟩
  rw [H3.out] at hs ⊢
  simp only [] at hs ⊢
  clear HS
  have HS := Lib.hid hs; clear hs
  have X := Lib.hid (ZB.out.grown hg (by omega)); clear ZB
  have ZB := Lib.hid X.out; clear X
  have X := Lib.hid (CB.out.grown hg (fun e => by have := HGC.out; omega)); clear CB
  have CB := Lib.hid X.out; clear X
  have X := Lib.hid (Nat.le_trans HZ.out hg.size); clear HZ
  have HZ := Lib.hid X.out; clear X
  have X := Lib.hid (Nat.le_trans HGB.out hg.size); clear HGB
  have HGB := Lib.hid X.out; clear X
  have X := Lib.hid (Below.grown BW.out hg BW.out.size (fun k hk => by injection hk with hk; omega)); clear BW hg
  have BW := Lib.hid X.out; clear X
  have hq : v3.cell? ⟨gc, 2, none⟩ = some (.int .i64 0) := blk_cell0 (L := [.int .i64 (n1 : Int), .int .i64 (n2 : Int), .int .i64 0, .int .i64 0, .int .i64 0, .int .i64 0, .int .i64 0, .int .i64 0, .int .i64 0, .string (bs []), .string (bs []), .string (bs []), .int .i64 0, .slice none 0 0, .int .i64 0, .slice none 0 0, .int .i64 0, .int .i64 0, .bool false]) CB.out 2 rfl
  have hfz : v3.frozen? ⟨gc, 2, none⟩ = false := CB.out.frozen 2
  go_wp2_with fail
  clear hq hfz
  have X := Lib.hid (show Blk (World.setCell v3 ⟨gc, 2, none⟩ (.int .i64 (n3 : Int))) gc 36 [.int .i64 (n1 : Int), .int .i64 (n2 : Int), .int .i64 (n3 : Int), .int .i64 0, .int .i64 0, .int .i64 0, .int .i64 0, .int .i64 0, .int .i64 0, .string (bs []), .string (bs []), .string (bs []), .int .i64 0, .slice none 0 0, .int .i64 0, .slice none 0 0, .int .i64 0, .int .i64 0, .bool false].toArray from blk_put0 CB.out 2 (.int .i64 (n3 : Int))); clear CB
  have CB := Lib.hid X.out; clear X
  have X := Lib.hid (ScanCell.of (Blk.setOther HS.out.blk (a := ⟨gc, 2, none⟩) (by have := HGC.out; show gc ≠ _; omega) (.int .i64 (n3 : Int)))); clear HS
  have HS := Lib.hid X.out; clear X
  have X := Lib.hid (Blk.setOther ZB.out (a := ⟨gc, 2, none⟩) (by have := HGC.out; show gc ≠ _; omega) (.int .i64 (n3 : Int))); clear ZB
  have ZB := Lib.hid X.out; clear X
  have X := Lib.hid (Below.setCell BW.out (p := ⟨gc, 2, none⟩) (by have := HGC.out; show _ ≤ gc; omega) (.int .i64 (n3 : Int))); clear BW
  have BW := Lib.hid X.out; clear X
  have X := Lib.hid (show w.heap.size + 1 + 1 ≤ (World.heap (World.setCell v3 ⟨gc, 2, none⟩ (.int .i64 (n3 : Int)))).size by rw [setCell_size]; exact HZ.out); clear HZ
  have HZ := Lib.hid X.out; clear X
  have X := Lib.hid (show gc + 1 ≤ (World.heap (World.setCell v3 ⟨gc, 2, none⟩ (.int .i64 (n3 : Int)))).size by rw [setCell_size]; exact HGB.out); clear HGB
  have HGB := Lib.hid X.out; clear X
  refine (scanNum_any (w.heap.size + 1) r3 b3 _ (by omega) HS.out).mono ?_; rintro e v4 ⟨rfl, hs, hg⟩
  rw [H4.out] at hs ⊢
  simp only [] at hs ⊢
  clear HS
  have HS := Lib.hid hs; clear hs
  have X := Lib.hid (ZB.out.grown hg (by omega)); clear ZB
  have ZB := Lib.hid X.out; clear X
  have X := Lib.hid (CB.out.grown hg (fun e => by have := HGC.out; omega)); clear CB
  have CB := Lib.hid X.out; clear X
  have X := Lib.hid (Nat.le_trans HZ.out hg.size); clear HZ
  have HZ := Lib.hid X.out; clear X
  have X := Lib.hid (Nat.le_trans HGB.out hg.size); clear HGB
  have HGB := Lib.hid X.out; clear X
  have X := Lib.hid (Below.grown BW.out hg BW.out.size (fun k hk => by injection hk with hk; omega)); clear BW hg
  have BW := Lib.hid X.out; clear X
  have hq : v4.cell? ⟨gc, 3, none⟩ = some (.int .i64 0) := blk_cell0 (L := [.int .i64 (n1 : Int), .int .i64 (n2 : Int), .int .i64 (n3 : Int), .int .i64 0, .int .i64 0, .int .i64 0, .int .i64 0, .int .i64 0, .int .i64 0, .string (bs []), .string (bs []), .string (bs []), .int .i64 0, .slice none 0 0, .int .i64 0, .slice none 0 0, .int .i64 0, .int .i64 0, .bool false]) CB.out 3 rfl
  have hfz : v4.frozen? ⟨gc, 3, none⟩ = false := CB.out.frozen 3
  go_wp2_with fail
  clear hq hfz
  have X := Lib.hid (show Blk (World.setCell v4 ⟨gc, 3, none⟩ (.int .i64 (n4 : Int))) gc 36 [.int .i64 (n1 : Int), .int .i64 (n2 : Int), .int .i64 (n3 : Int), .int .i64 (n4 : Int), .int .i64 0, .int .i64 0, .int .i64 0, .int .i64 0, .int .i64 0, .string (bs []), .string (bs []), .string (bs []), .int .i64 0, .slice none 0 0, .int .i64 0, .slice none 0 0, .int .i64 0, .int .i64 0, .bool false].toArray from blk_put0 CB.out 3 (.int .i64 (n4 : Int))); clear CB
  have CB := Lib.hid X.out; clear X
  have X := Lib.hid (ScanCell.of (Blk.setOther HS.out.blk (a := ⟨gc, 3, none⟩) (by have := HGC.out; show gc ≠ _; omega) (.int .i64 (n4 : Int)))); clear HS
  have HS := Lib.hid X.out; clear X
  have X := Lib.hid (Blk.setOther ZB.out (a := ⟨gc, 3, none⟩) (by have := HGC.out; show gc ≠ _; omega) (.int .i64 (n4 : Int))); clear ZB
  have ZB := Lib.hid X.out; clear X
  have X := Lib.hid (Below.setCell BW.out (p := ⟨gc, 3, none⟩) (by have := HGC.out; show _ ≤ gc; omega) (.int .i64 (n4 : Int))); clear BW
  have BW := Lib.hid X.out; clear X
  have X := Lib.hid (show w.heap.size + 1 + 1 ≤ (World.heap (World.setCell v4 ⟨gc, 3, none⟩ (.int .i64 (n4 : Int)))).size by rw [setCell_size]; exact HZ.out); clear HZ
  have HZ := Lib.hid X.out; clear X
  have X := Lib.hid (show gc + 1 ≤ (World.heap (World.setCell v4 ⟨gc, 3, none⟩ (.int .i64 (n4 : Int)))).size by rw [setCell_size]; exact HGB.out); clear HGB
  have HGB := Lib.hid X.out; clear X
  refine (scanNum_any (w.heap.size + 1) r4 b4 _ (by omega) HS.out).mono ?_; rintro e v5 ⟨rfl, hs, hg⟩
  rw [H5.out] at hs ⊢
  simp only [] at hs ⊢
  clear HS
  have HS := Lib.hid hs; clear hs
  have X := Lib.hid (ZB.out.grown hg (by omega)); clear ZB
  have ZB := Lib.hid X.out; clear X
  have X := Lib.hid (CB.out.grown hg (fun e => by have := HGC.out; omega)); clear CB
  have CB := Lib.hid X.out; clear X
  have X := Lib.hid (Nat.le_trans HZ.out hg.size); clear HZ
  have HZ := Lib.hid X.out; clear X
  have X := Lib.hid (Nat.le_trans HGB.out hg.size); clear HGB
  have HGB := Lib.hid X.out; clear X
  have X := Lib.hid (Below.grown BW.out hg BW.out.size (fun k hk => by injection hk with hk; omega)); clear BW hg
  have BW := Lib.hid X.out; clear X
  have hq : v5.cell? ⟨gc, 4, none⟩ = some (.int .i64 0) := blk_cell0 (L := [.int .i64 (n1 : Int), .int .i64 (n2 : Int), .int .i64 (n3 : Int), .int .i64 (n4 : Int), .int .i64 0, .int .i64 0, .int .i64 0, .int .i64 0, .int .i64 0, .string (bs []), .string (bs []), .string (bs []), .int .i64 0, .slice none 0 0, .int .i64 0, .slice none 0 0, .int .i64 0, .int .i64 0, .bool false]) CB.out 4 rfl
  have hfz : v5.frozen? ⟨gc, 4, none⟩ = false := CB.out.frozen 4
  go_wp2_with fail
  clear hq hfz
  have X := Lib.hid (show Blk (World.setCell v5 ⟨gc, 4, none⟩ (.int .i64 (n5 : Int))) gc 36 [.int .i64 (n1 : Int), .int .i64 (n2 : Int), .int .i64 (n3 : Int), .int .i64 (n4 : Int), .int .i64 (n5 : Int), .int .i64 0, .int .i64 0, .int .i64 0, .int .i64 0, .string (bs []), .string (bs []), .string (bs []), .int .i64 0, .slice none 0 0, .int .i64 0, .slice none 0 0, .int .i64 0, .int .i64 0, .bool false].toArray from blk_put0 CB.out 4 (.int .i64 (n5 : Int))); clear CB
  have CB := Lib.hid X.out; clear X
  have X := Lib.hid (ScanCell.of (Blk.setOther HS.out.blk (a := ⟨gc, 4, none⟩) (by have := HGC.out; show gc ≠ _; omega) (.int .i64 (n5 : Int)))); clear HS
  have HS := Lib.hid X.out; clear X
  have X := Lib.hid (Blk.setOther ZB.out (a := ⟨gc, 4, none⟩) (by have := HGC.out; show gc ≠ _; omega) (.int .i64 (n5 : Int))); clear ZB
  have ZB := Lib.hid X.out; clear X
  have X := Lib.hid (Below.setCell BW.out (p := ⟨gc, 4, none⟩) (by have := HGC.out; show _ ≤ gc; omega) (.int .i64 (n5 : Int))); clear BW
  have BW := Lib.hid X.out; clear X
  have X := Lib.hid (show w.heap.size + 1 + 1 ≤ (World.heap (World.setCell v5 ⟨gc, 4, none⟩ (.int .i64 (n5 : Int)))).size by rw [setCell_size]; exact HZ.out); clear HZ
  have HZ := Lib.hid X.out; clear X
  have X := Lib.hid (show gc + 1 ≤ (World.heap (World.setCell v5 ⟨gc, 4, none⟩ (.int .i64 (n5 : Int)))).size by rw [setCell_size]; exact HGB.out); clear HGB
  have HGB := Lib.hid X.out; clear X
  refine (scanNum_any (w.heap.size + 1) r5 b5 _ (by omega) HS.out).mono ?_; rintro e v6 ⟨rfl, hs, hg⟩
  rw [H6.out] at hs ⊢
  simp only [] at hs ⊢
  clear HS
  have HS := Lib.hid hs; clear hs
  have X := Lib.hid (ZB.out.grown hg (by omega)); clear ZB
  have ZB := Lib.hid X.out; clear X
  have X := Lib.hid (CB.out.grown hg (fun e => by have := HGC.out; omega)); clear CB
  have CB := Lib.hid X.out; clear X
  have X := Lib.hid (Nat.le_trans HZ.out hg.size); clear HZ
  have HZ := Lib.hid X.out; clear X
  have X := Lib.hid (Nat.le_trans HGB.out hg.size); clear HGB
  have HGB := Lib.hid X.out; clear X
  have X := Lib.hid (Below.grown BW.out hg BW.out.size (fun k hk => by injection hk with hk; omega)); clear BW hg
  have BW := Lib.hid X.out; clear X
  have hq : v6.cell? ⟨gc, 5, none⟩ = some (.int .i64 0) := blk_cell0 (L := [.int .i64 (n1 : Int), .int .i64 (n2 : Int), .int .i64 (n3 : Int), .int .i64 (n4 : Int), .int .i64 (n5 : Int), .int .i64 0, .int .i64 0, .int .i64 0, .int .i64 0, .string (bs []), .string (bs []), .string (bs []), .int .i64 0, .slice none 0 0, .int .i64 0, .slice none 0 0, .int .i64 0, .int .i64 0, .bool false]) CB.out 5 rfl
  have hfz : v6.frozen? ⟨gc, 5, none⟩ = false := CB.out.frozen 5
  go_wp2_with fail
  clear hq hfz
  have X := Lib.hid (show Blk (World.setCell v6 ⟨gc, 5, none⟩ (.int .i64 (n6 : Int))) gc 36 [.int .i64 (n1 : Int), .int .i64 (n2 : Int), .int .i64 (n3 : Int), .int .i64 (n4 : Int), .int .i64 (n5 : Int), .int .i64 (n6 : Int), .int .i64 0, .int .i64 0, .int .i64 0, .string (bs []), .string (bs []), .string (bs []), .int .i64 0, .slice none 0 0, .int .i64 0, .slice none 0 0, .int .i64 0, .int .i64 0, .bool false].toArray from blk_put0 CB.out 5 (.int .i64 (n6 : Int))); clear CB
  have CB := Lib.hid X.out; clear X
  have X := Lib.hid (ScanCell.of (Blk.setOther HS.out.blk (a := ⟨gc, 5, none⟩) (by have := HGC.out; show gc ≠ _; omega) (.int .i64 (n6 : Int)))); clear HS
  have HS := Lib.hid X.out; clear X
  have X := Lib.hid (Blk.setOther ZB.out (a := ⟨gc, 5, none⟩) (by have := HGC.out; show gc ≠ _; omega) (.int .i64 (n6 : Int))); clear ZB
  have ZB := Lib.hid X.out; clear X
  have X := Lib.hid (Below.setCell BW.out (p := ⟨gc, 5, none⟩) (by have := HGC.out; show _ ≤ gc; omega) (.int .i64 (n6 : Int))); clear BW
  have BW := Lib.hid X.out; clear X
  have X := Lib.hid (show w.heap.size + 1 + 1 ≤ (World.heap (World.setCell v6 ⟨gc, 5, none⟩ (.int .i64 (n6 : Int)))).size by rw [setCell_size]; exact HZ.out); clear HZ
  have HZ := Lib.hid X.out; clear X
  have X := Lib.hid (show gc + 1 ≤ (World.heap (World.setCell v6 ⟨gc, 5, none⟩ (.int .i64 (n6 : Int)))).size by rw [setCell_size]; exact HGB.out); clear HGB
  have HGB := Lib.hid X.out; clear X
  refine (scanNum_any (w.heap.size + 1) r6 b6 _ (by omega) HS.out).mono ?_; rintro e v7 ⟨rfl, hs, hg⟩
  rw [H7.out] at hs ⊢
  simp only [] at hs ⊢
  clear HS
  have HS := Lib.hid hs; clear hs
  have X := Lib.hid (ZB.out.grown hg (by omega)); clear ZB
  have ZB := Lib.hid X.out; clear X
  have X := Lib.hid (CB.out.grown hg (fun e => by have := HGC.out; omega)); clear CB
  have CB := Lib.hid X.out; clear X
  have X := Lib.hid (Nat.le_trans HZ.out hg.size); clear HZ
  have HZ := Lib.hid X.out; clear X
  have X := Lib.hid (Nat.le_trans HGB.out hg.size); clear HGB
  have HGB := Lib.hid X.out; clear X
  have X := Lib.hid (Below.grown BW.out hg BW.out.size (fun k hk => by injection hk with hk; omega)); clear BW hg
  have BW := Lib.hid X.out; clear X
  have hq : v7.cell? ⟨gc, 16, none⟩ = some (.int .i64 0) := blk_cell0 (L := [.int .i64 (n1 : Int), .int .i64 (n2 : Int), .int .i64 (n3 : Int), .int .i64 (n4 : Int), .int .i64 (n5 : Int), .int .i64 (n6 : Int), .int .i64 0, .int .i64 0, .int .i64 0, .string (bs []), .string (bs []), .string (bs []), .int .i64 0, .slice none 0 0, .int .i64 0, .slice none 0 0, .int .i64 0, .int .i64 0, .bool false]) CB.out 16 rfl
  have hfz : v7.frozen? ⟨gc, 16, none⟩ = false := CB.out.frozen 16
  go_wp2_with fail
  clear hq hfz
  have X := Lib.hid (show Blk (World.setCell v7 ⟨gc, 16, none⟩ (.int .i64 (n7 : Int))) gc 36 [.int .i64 (n1 : Int), .int .i64 (n2 : Int), .int .i64 (n3 : Int), .int .i64 (n4 : Int), .int .i64 (n5 : Int), .int .i64 (n6 : Int), .int .i64 0, .int .i64 0, .int .i64 0, .string (bs []), .string (bs []), .string (bs []), .int .i64 0, .slice none 0 0, .int .i64 0, .slice none 0 0, .int .i64 (n7 : Int), .int .i64 0, .bool false].toArray from blk_put0 CB.out 16 (.int .i64 (n7 : Int))); clear CB
  have CB := Lib.hid X.out; clear X
  have X := Lib.hid (ScanCell.of (Blk.setOther HS.out.blk (a := ⟨gc, 16, none⟩) (by have := HGC.out; show gc ≠ _; omega) (.int .i64 (n7 : Int)))); clear HS
  have HS := Lib.hid X.out; clear X
  have X := Lib.hid (Blk.setOther ZB.out (a := ⟨gc, 16, none⟩) (by have := HGC.out; show gc ≠ _; omega) (.int .i64 (n7 : Int))); clear ZB
  have ZB := Lib.hid X.out; clear X
  have X := Lib.hid (Below.setCell BW.out (p := ⟨gc, 16, none⟩) (by have := HGC.out; show _ ≤ gc; omega) (.int .i64 (n7 : Int))); clear BW
  have BW := Lib.hid X.out; clear X
  have X := Lib.hid (show w.heap.size + 1 + 1 ≤ (World.heap (World.setCell v7 ⟨gc, 16, none⟩ (.int .i64 (n7 : Int)))).size by rw [setCell_size]; exact HZ.out); clear HZ
  have HZ := Lib.hid X.out; clear X
  have X := Lib.hid (show gc + 1 ≤ (World.heap (World.setCell v7 ⟨gc, 16, none⟩ (.int .i64 (n7 : Int)))).size by rw [setCell_size]; exact HGB.out); clear HGB
  have HGB := Lib.hid X.out; clear X
  refine (scanNum_any (w.heap.size + 1) r7 b7 _ (by omega) HS.out).mono ?_; rintro e v8 ⟨rfl, hs, hg⟩
  rw [H8.out] at hs ⊢
  simp only [] at hs ⊢
  clear HS
  have HS := Lib.hid hs; clear hs
  have X := Lib.hid (ZB.out.grown hg (by omega)); clear ZB
  have ZB := Lib.hid X.out; clear X
  have X := Lib.hid (CB.out.grown hg (fun e => by have := HGC.out; omega)); clear CB
  have CB := Lib.hid X.out; clear X
  have X := Lib.hid (Nat.le_trans HZ.out hg.size); clear HZ
  have HZ := Lib.hid X.out; clear X
  have X := Lib.hid (Nat.le_trans HGB.out hg.size); clear HGB
  have HGB := Lib.hid X.out; clear X
  have X := Lib.hid (Below.grown BW.out hg BW.out.size (fun k hk => by injection hk with hk; omega)); clear BW hg
  have BW := Lib.hid X.out; clear X
  have hq : v8.cell? ⟨gc, 17, none⟩ = some (.int .i64 0) := blk_cell0 (L := [.int .i64 (n1 : Int), .int .i64 (n2 : Int), .int .i64 (n3 : Int), .int .i64 (n4 : Int), .int .i64 (n5 : Int), .int .i64 (n6 : Int), .int .i64 0, .int .i64 0, .int .i64 0, .string (bs []), .string (bs []), .string (bs []), .int .i64 0, .slice none 0 0, .int .i64 0, .slice none 0 0, .int .i64 (n7 : Int), .int .i64 0, .bool false]) CB.out 17 rfl
  have hfz : v8.frozen? ⟨gc, 17, none⟩ = false := CB.out.frozen 17
  have hv8 : wrap64 ((n8 : Int) - 1) = (n8 : Int) - 1 := by unfold wrap64; omega
  have HV8 := Lib.hid hv8; clear hv8
  go_wp2_with fail
  clear hq hfz
  have X := Lib.hid (show Blk (World.setCell v8 ⟨gc, 17, none⟩ (.int .i64 (n8 : Int))) gc 36 [.int .i64 (n1 : Int), .int .i64 (n2 : Int), .int .i64 (n3 : Int), .int .i64 (n4 : Int), .int .i64 (n5 : Int), .int .i64 (n6 : Int), .int .i64 0, .int .i64 0, .int .i64 0, .string (bs []), .string (bs []), .string (bs []), .int .i64 0, .slice none 0 0, .int .i64 0, .slice none 0 0, .int .i64 (n7 : Int), .int .i64 (n8 : Int), .bool false].toArray from blk_put0 CB.out 17 (.int .i64 (n8 : Int))); clear CB
  have CB := Lib.hid X.out; clear X
  have X := Lib.hid (ScanCell.of (Blk.setOther HS.out.blk (a := ⟨gc, 17, none⟩) (by have := HGC.out; show gc ≠ _; omega) (.int .i64 (n8 : Int)))); clear HS
  have HS := Lib.hid X.out; clear X
  have X := Lib.hid (Blk.setOther ZB.out (a := ⟨gc, 17, none⟩) (by have := HGC.out; show gc ≠ _; omega) (.int .i64 (n8 : Int))); clear ZB
  have ZB := Lib.hid X.out; clear X
  have X := Lib.hid (Below.setCell BW.out (p := ⟨gc, 17, none⟩) (by have := HGC.out; show _ ≤ gc; omega) (.int .i64 (n8 : Int))); clear BW
  have BW := Lib.hid X.out; clear X
  have X := Lib.hid (show w.heap.size + 1 + 1 ≤ (World.heap (World.setCell v8 ⟨gc, 17, none⟩ (.int .i64 (n8 : Int)))).size by rw [setCell_size]; exact HZ.out); clear HZ
  have HZ := Lib.hid X.out; clear X
  have X := Lib.hid (show gc + 1 ≤ (World.heap (World.setCell v8 ⟨gc, 17, none⟩ (.int .i64 (n8 : Int)))).size by rw [setCell_size]; exact HGB.out); clear HGB
  have HGB := Lib.hid X.out; clear X
  have X := Lib.hid (show Blk (World.setCell (World.setCell v8 ⟨gc, 17, none⟩ (.int .i64 (n8 : Int))) ⟨gc, 17, none⟩ (.int .i64 ((n8 : Int) - 1))) gc 36 [.int .i64 (n1 : Int), .int .i64 (n2 : Int), .int .i64 (n3 : Int), .int .i64 (n4 : Int), .int .i64 (n5 : Int), .int .i64 (n6 : Int), .int .i64 0, .int .i64 0, .int .i64 0, .string (bs []), .string (bs []), .string (bs []), .int .i64 0, .slice none 0 0, .int .i64 0, .slice none 0 0, .int .i64 (n7 : Int), .int .i64 ((n8 : Int) - 1), .bool false].toArray from blk_put0 CB.out 17 (.int .i64 ((n8 : Int) - 1))); clear CB
  have CB := Lib.hid X.out; clear X
  have X := Lib.hid (ScanCell.of (Blk.setOther HS.out.blk (a := ⟨gc, 17, none⟩) (by have := HGC.out; show gc ≠ _; omega) (.int .i64 ((n8 : Int) - 1)))); clear HS
  have HS := Lib.hid X.out; clear X
  have X := Lib.hid (Blk.setOther ZB.out (a := ⟨gc, 17, none⟩) (by have := HGC.out; show gc ≠ _; omega) (.int .i64 ((n8 : Int) - 1))); clear ZB
  have ZB := Lib.hid X.out; clear X
  have X := Lib.hid (Below.setCell BW.out (p := ⟨gc, 17, none⟩) (by have := HGC.out; show _ ≤ gc; omega) (.int .i64 ((n8 : Int) - 1))); clear BW
  have BW := Lib.hid X.out; clear X
  have X := Lib.hid (show w.heap.size + 1 + 1 ≤ (World.heap (World.setCell (World.setCell v8 ⟨gc, 17, none⟩ (.int .i64 (n8 : Int))) ⟨gc, 17, none⟩ (.int .i64 ((n8 : Int) - 1)))).size by rw [setCell_size]; exact HZ.out); clear HZ
  have HZ := Lib.hid X.out; clear X
  have X := Lib.hid (show gc + 1 ≤ (World.heap (World.setCell (World.setCell v8 ⟨gc, 17, none⟩ (.int .i64 (n8 : Int))) ⟨gc, 17, none⟩ (.int .i64 ((n8 : Int) - 1)))).size by rw [setCell_size]; exact HGB.out); clear HGB
  have HGB := Lib.hid X.out; clear X
  refine (scanNum_any (w.heap.size + 1) r8 b8 _ (by omega) HS.out).mono ?_; rintro e v9 ⟨rfl, hs, hg⟩
  rw [H9.out] at hs ⊢
  simp only [] at hs ⊢
  clear HS
  have HS := Lib.hid hs; clear hs
  have X := Lib.hid (ZB.out.grown hg (by omega)); clear ZB
  have ZB := Lib.hid X.out; clear X
  have X := Lib.hid (CB.out.grown hg (fun e => by have := HGC.out; omega)); clear CB
  have CB := Lib.hid X.out; clear X
  have X := Lib.hid (Nat.le_trans HZ.out hg.size); clear HZ
  have HZ := Lib.hid X.out; clear X
  have X := Lib.hid (Nat.le_trans HGB.out hg.size); clear HGB
  have HGB := Lib.hid X.out; clear X
  have X := Lib.hid (Below.grown BW.out hg BW.out.size (fun k hk => by injection hk with hk; omega)); clear BW hg
  have BW := Lib.hid X.out; clear X
  have hq : v9.cell? ⟨gc, 14, none⟩ = some (.int .i64 0) := blk_cell0 (L := [.int .i64 (n1 : Int), .int .i64 (n2 : Int), .int .i64 (n3 : Int), .int .i64 (n4 : Int), .int .i64 (n5 : Int), .int .i64 (n6 : Int), .int .i64 0, .int .i64 0, .int .i64 0, .string (bs []), .string (bs []), .string (bs []), .int .i64 0, .slice none 0 0, .int .i64 0, .slice none 0 0, .int .i64 (n7 : Int), .int .i64 ((n8 : Int) - 1), .bool false]) CB.out 14 rfl
  have hfz : v9.frozen? ⟨gc, 14, none⟩ = false := CB.out.frozen 14
  go_wp2_with fail
  clear hq hfz
  have X := Lib.hid (show Blk (World.setCell v9 ⟨gc, 14, none⟩ (.int .i64 (n9 : Int))) gc 36 [.int .i64 (n1 : Int), .int .i64 (n2 : Int), .int .i64 (n3 : Int), .int .i64 (n4 : Int), .int .i64 (n5 : Int), .int .i64 (n6 : Int), .int .i64 0, .int .i64 0, .int .i64 0, .string (bs []), .string (bs []), .string (bs []), .int .i64 0, .slice none 0 0, .int .i64 (n9 : Int), .slice none 0 0, .int .i64 (n7 : Int), .int .i64 ((n8 : Int) - 1), .bool false].toArray from blk_put0 CB.out 14 (.int .i64 (n9 : Int))); clear CB
  have CB := Lib.hid X.out; clear X
  have X := Lib.hid (ScanCell.of (Blk.setOther HS.out.blk (a := ⟨gc, 14, none⟩) (by have := HGC.out; show gc ≠ _; omega) (.int .i64 (n9 : Int)))); clear HS
  have HS := Lib.hid X.out; clear X
  have X := Lib.hid (Blk.setOther ZB.out (a := ⟨gc, 14, none⟩) (by have := HGC.out; show gc ≠ _; omega) (.int .i64 (n9 : Int))); clear ZB
  have ZB := Lib.hid X.out; clear X
  have X := Lib.hid (Below.setCell BW.out (p := ⟨gc, 14, none⟩) (by have := HGC.out; show _ ≤ gc; omega) (.int .i64 (n9 : Int))); clear BW
  have BW := Lib.hid X.out; clear X
  have X := Lib.hid (show w.heap.size + 1 + 1 ≤ (World.heap (World.setCell v9 ⟨gc, 14, none⟩ (.int .i64 (n9 : Int)))).size by rw [setCell_size]; exact HZ.out); clear HZ
  have HZ := Lib.hid X.out; clear X
  have X := Lib.hid (show gc + 1 ≤ (World.heap (World.setCell v9 ⟨gc, 14, none⟩ (.int .i64 (n9 : Int)))).size by rw [setCell_size]; exact HGB.out); clear HGB
  have HGB := Lib.hid X.out; clear X
  clear HGE
  refine (scanCut_any (w.heap.size + 1) r9 b9 1 _ (by omega) HS.out).mono ?_; rintro e v10 ⟨rfl, hs, hg⟩
  rw [H10.out] at hs ⊢
  simp only [] at hs ⊢
  clear HS
  have HS := Lib.hid hs; clear hs
  have X := Lib.hid (ZB.out.grown hg (by omega)); clear ZB
  have ZB := Lib.hid X.out; clear X
  have X := Lib.hid (CB.out.grown hg (fun e => by have := HGC.out; omega)); clear CB
  have CB := Lib.hid X.out; clear X
  have X := Lib.hid (Nat.le_trans HZ.out hg.size); clear HZ
  have HZ := Lib.hid X.out; clear X
  have X := Lib.hid (Nat.le_trans HGB.out hg.size); clear HGB
  have HGB := Lib.hid X.out; clear X
  have X := Lib.hid (Below.grown BW.out hg BW.out.size (fun k hk => by injection hk with hk; omega)); clear BW hg
  have BW := Lib.hid X.out; clear X
  have hq : v10.cell? ⟨gc, 18, none⟩ = some (.bool false) := blk_cell0 (L := [.int .i64 (n1 : Int), .int .i64 (n2 : Int), .int .i64 (n3 : Int), .int .i64 (n4 : Int), .int .i64 (n5 : Int), .int .i64 (n6 : Int), .int .i64 0, .int .i64 0, .int .i64 0, .string (bs []), .string (bs []), .string (bs []), .int .i64 0, .slice none 0 0, .int .i64 (n9 : Int), .slice none 0 0, .int .i64 (n7 : Int), .int .i64 ((n8 : Int) - 1), .bool false]) CB.out 18 rfl
  have hfz : v10.frozen? ⟨gc, 18, none⟩ = false := CB.out.frozen 18
  go_wp2_with fail
  clear hq hfz
  have X := Lib.hid (show Blk (World.setCell v10 ⟨gc, 18, none⟩ (.bool (t10 == [1]))) gc 36 [.int .i64 (n1 : Int), .int .i64 (n2 : Int), .int .i64 (n3 : Int), .int .i64 (n4 : Int), .int .i64 (n5 : Int), .int .i64 (n6 : Int), .int .i64 0, .int .i64 0, .int .i64 0, .string (bs []), .string (bs []), .string (bs []), .int .i64 0, .slice none 0 0, .int .i64 (n9 : Int), .slice none 0 0, .int .i64 (n7 : Int), .int .i64 ((n8 : Int) - 1), .bool (t10 == [1])].toArray from blk_put0 CB.out 18 (.bool (t10 == [1]))); clear CB
  have CB := Lib.hid X.out; clear X
  have X := Lib.hid (ScanCell.of (Blk.setOther HS.out.blk (a := ⟨gc, 18, none⟩) (by have := HGC.out; show gc ≠ _; omega) (.bool (t10 == [1])))); clear HS
  have HS := Lib.hid X.out; clear X
  have X := Lib.hid (Blk.setOther ZB.out (a := ⟨gc, 18, none⟩) (by have := HGC.out; show gc ≠ _; omega) (.bool (t10 == [1]))); clear ZB
  have ZB := Lib.hid X.out; clear X
  have X := Lib.hid (Below.setCell BW.out (p := ⟨gc, 18, none⟩) (by have := HGC.out; show _ ≤ gc; omega) (.bool (t10 == [1]))); clear BW
  have BW := Lib.hid X.out; clear X
  have X := Lib.hid (show w.heap.size + 1 + 1 ≤ (World.heap (World.setCell v10 ⟨gc, 18, none⟩ (.bool (t10 == [1])))).size by rw [setCell_size]; exact HZ.out); clear HZ
  have HZ := Lib.hid X.out; clear X
  have X := Lib.hid (show gc + 1 ≤ (World.heap (World.setCell v10 ⟨gc, 18, none⟩ (.bool (t10 == [1])))).size by rw [setCell_size]; exact HGB.out); clear HGB
  have HGB := Lib.hid X.out; clear X
  refine (scanText_any (w.heap.size + 1) r10 b10 _ (by omega) HS.out).mono ?_; rintro e v11 ⟨rfl, hs, hg⟩
  rw [H11.out] at hs ⊢
  simp only [] at hs ⊢
  clear HS
  have HS := Lib.hid hs; clear hs
  have X := Lib.hid (ZB.out.grown hg (by omega)); clear ZB
  have ZB := Lib.hid X.out; clear X
  have X := Lib.hid (CB.out.grown hg (fun e => by have := HGC.out; omega)); clear CB
  have CB := Lib.hid X.out; clear X
  have X := Lib.hid (Nat.le_trans HZ.out hg.size); clear HZ
  have HZ := Lib.hid X.out; clear X
  have X := Lib.hid (Nat.le_trans HGB.out hg.size); clear HGB
  have HGB := Lib.hid X.out; clear X
  have X := Lib.hid (Below.grown BW.out hg BW.out.size (fun k hk => by injection hk with hk; omega)); clear BW hg
  have BW := Lib.hid X.out; clear X
  go_wp2_with fail
  have hcm := fReadCmd_wt t11
  have HRC := Lib.hid (fun W => iReadCmd_any t11 W m11')
  generalize fReadCmd t11 = RC at *
  obtain ⟨cmd, okc⟩ := RC
  simp only [] at hcm HRC
  refine (HRC.out _).mono ?_; rintro e v12 ⟨csC, rfl, hMi, hb⟩
  obtain ⟨F0, hnd0, ho0⟩ := hMi
  have HF0 := Lib.hid (show ∀ b ∈ F0, gc + 1 ≤ b ∧ b < v12.heap.size from fun b hb => ⟨Nat.le_trans HGB.out (ho0.in b hb).1, (ho0.in b hb).2⟩)
  have H1C := Lib.hid ho0.one
  obtain ⟨A0, k0, F0', rfl, rfl, hs0⟩ := CmdD.openO ho0
  have OC := Lib.hid (Own.mono hs0 HGB.out)
  have HND := Lib.hid hnd0
  clear ho0 hs0 hnd0 HRC
  have X := Lib.hid (ZB.out.below hb); clear ZB
  have ZB := Lib.hid X.out; clear X
  have X := Lib.hid (CB.out.below hb); clear CB
  have CB := Lib.hid X.out; clear X
  have X := Lib.hid (ScanCell.of (HS.out.blk.below hb)); clear HS
  have HS := Lib.hid X.out; clear X
  have X := Lib.hid (Nat.le_trans HZ.out hb.size); clear HZ
  have HZ := Lib.hid X.out; clear X
  have X := Lib.hid (Nat.le_trans HGB.out hb.size); clear HGB
  have HGB := Lib.hid X.out; clear X
  have X := Lib.hid (show Below w.heap.size w v12 from BW.out.trans (hb.mono BW.out.size)); clear BW hb
  have BW := Lib.hid X.out; clear X
  obtain ⟨HBs, hbs⟩ : ∃ h, h = v12.heap.size := ⟨_, rfl⟩
  rw [← hbs] at HF0
  have HBS := Lib.hid (show gc + 1 ≤ HBs by rw [hbs]; exact HGB.out)
  have HBZ := Lib.hid (show HBs ≤ v12.heap.size by rw [hbs]; exact Nat.le_refl _)
  clear hbs
  go_wp2_with (first | ((with_reducible show wpList _ _ _ ({ dst := _, op := Op.store 33 _ _, type := _, pos := _, after := _, guard := _ } :: _) _ _); go_must (refine wpList_store_row _ gc 36 6 [.int .i64 cmd.kind, .int .i64 cmd.client, .int .i64 cmd.no, .string (bs cmd.set), .string (bs cmd.name), .string (bs cmd.tag), .int .i64 cmd.n, .slice A0 cmd.chunks.length k0] [.int .i64 (n1 : Int), .int .i64 (n2 : Int), .int .i64 (n3 : Int), .int .i64 (n4 : Int), .int .i64 (n5 : Int), .int .i64 (n6 : Int)] [.int .i64 0, .int .i64 0, .int .i64 0, .string (bs []), .string (bs []), .string (bs []), .int .i64 0, .slice none 0 0] [.int .i64 (n9 : Int), .slice none 0 0, .int .i64 (n7 : Int), .int .i64 ((n8 : Int) - 1), .bool (t10 == [1])] _ rfl rfl agg_Cmd CB.out rfl rfl rfl H1C.out ?_; intro v13 hsb hg; clear CB; have CB := Lib.hid (show Blk v13 gc 36 [.int .i64 (n1 : Int), .int .i64 (n2 : Int), .int .i64 (n3 : Int), .int .i64 (n4 : Int), .int .i64 (n5 : Int), .int .i64 (n6 : Int), .int .i64 cmd.kind, .int .i64 cmd.client, .int .i64 cmd.no, .string (bs cmd.set), .string (bs cmd.name), .string (bs cmd.tag), .int .i64 cmd.n, .slice A0 cmd.chunks.length k0, .int .i64 (n9 : Int), .slice none 0 0, .int .i64 (n7 : Int), .int .i64 ((n8 : Int) - 1), .bool (t10 == [1])].toArray by simpa using hsb); clear hsb; have X := Lib.hid (ZB.out.grown hg (by have := HGC.out; omega)); clear ZB; have ZB := Lib.hid X.out; clear X; have X := Lib.hid (ScanCell.of (HS.out.blk.grown hg (by have := HGC.out; omega))); clear HS; have HS := Lib.hid X.out; clear X; have X := Lib.hid (OC.out.keep fun b hb => hg.block b (OC.out.in b hb).2 (fun e => by injection e with e; have h1 := (HF0.out b hb).1; omega)); clear OC; have OC := Lib.hid X.out; clear X; have X := Lib.hid (Nat.le_trans HZ.out hg.size); clear HZ; have HZ := Lib.hid X.out; clear X; have X := Lib.hid (Nat.le_trans HGB.out hg.size); clear HGB; have HGB := Lib.hid X.out; clear X; have X := Lib.hid (Nat.le_trans HBZ.out hg.size); clear HBZ; have HBZ := Lib.hid X.out; clear X; have X := Lib.hid (Below.grown BW.out hg BW.out.size (fun k hk => by injection hk with hk; have := HGC.out; omega)); clear BW; have BW := Lib.hid X.out; clear X; clear hg)) | fail)
  refine (scanNum_any (w.heap.size + 1) r11 b11 _ (by omega) HS.out).mono ?_; rintro e v14 ⟨rfl, hs, hg⟩
  rw [H12.out] at hs ⊢
  simp only [] at hs ⊢
  clear HS
  have HS := Lib.hid hs; clear hs
  have X := Lib.hid (ZB.out.grown hg (by omega)); clear ZB
  have ZB := Lib.hid X.out; clear X
  have X := Lib.hid (CB.out.grown hg (fun e => by have := HGC.out; omega)); clear CB
  have CB := Lib.hid X.out; clear X
  have X := Lib.hid (OC.out.keep fun b hb => hg.block b (OC.out.in b hb).2 (fun e => by injection e with e; have h1 := (HF0.out b hb).1; have := HGC.out; omega)); clear OC
  have OC := Lib.hid X.out; clear X
  have X := Lib.hid (Nat.le_trans HZ.out hg.size); clear HZ
  have HZ := Lib.hid X.out; clear X
  have X := Lib.hid (Nat.le_trans HGB.out hg.size); clear HGB
  have HGB := Lib.hid X.out; clear X
  have X := Lib.hid (Nat.le_trans HBZ.out hg.size); clear HBZ
  have HBZ := Lib.hid X.out; clear X
  have X := Lib.hid (Below.grown BW.out hg BW.out.size (fun k hk => by injection hk with hk; omega)); clear BW hg
  have BW := Lib.hid X.out; clear X
  go_wp2
  go_loopw [9, 10] (fun ii _ wr => ∃ (j : Nat) (acc : List IdD) (rj : List UInt8) (bj : Bool) (Aj : Option Addr) (kj : Nat), j ≤ N ∧ ii = .int .i64 (j : Int) ∧ acc.length = j ∧ rj.length ≤ 1048576 ∧ acc ++ (pairsL (N - j) rj bj).1 = acc13 ∧ (pairsL (N - j) rj bj).2 = (r13, b13) ∧ ScanCell wr (w.heap.size + 1) rj bj ∧ Blk wr w.heap.size 36 [.int .i64 0, .int .i64 0, .int .i64 0, .int .i64 0, .int .i64 0, .int .i64 0, .int .i64 0, .int .i64 0, .int .i64 0, .string (bs []), .string (bs []), .string (bs []), .int .i64 0, .slice none 0 0, .int .i64 0, .slice none 0 0, .int .i64 0, .int .i64 0, .bool false].toArray ∧ Blk wr gc 36 [.int .i64 (n1 : Int), .int .i64 (n2 : Int), .int .i64 (n3 : Int), .int .i64 (n4 : Int), .int .i64 (n5 : Int), .int .i64 (n6 : Int), .int .i64 cmd.kind, .int .i64 cmd.client, .int .i64 cmd.no, .string (bs cmd.set), .string (bs cmd.name), .string (bs cmd.tag), .int .i64 cmd.n, .slice A0 cmd.chunks.length k0, .int .i64 (n9 : Int), .slice Aj j kj, .int .i64 (n7 : Int), .int .i64 ((n8 : Int) - 1), .bool (t10 == [1])].toArray ∧ wr.ownsRow HBs 32 2 (.slice Aj j kj) j (idCells acc) ∧ Own wr (gc + 1) (.sl 9 1 cmd.chunks.length (cat strC cmd.chunks) .nil) [.slice A0 cmd.chunks.length k0] F0 ∧ Below w.heap.size w wr ∧ gc + 1 ≤ wr.heap.size ∧ HBs ≤ wr.heap.size) (fun ii _ _ => N - (intOf ii).toNat)
  case atStart => exact ⟨0, [], r12, b12, none, 0, Nat.zero_le _, rfl, rfl, l12', by rw [Nat.sub_zero, H13.out]; rfl, by rw [Nat.sub_zero, H13.out], HS.out, ZB.out, CB.out, ⟨by simp [idCells], .inl ⟨rfl, rfl⟩⟩, OC.out, BW.out, HGB.out, HBZ.out⟩
  case round =>
    obtain ⟨j, acc, rj, bj, Aj, kj, hj, rfl, hal, hrl, he1, he2, hsc, hzb, hcb, hown, hoc, hbw, hgb, hbz⟩ := hrel
    clear HS ZB CB BW HZ HGB OC HBZ
    have HS := Lib.hid hsc; clear hsc
    have ZB := Lib.hid hzb; clear hzb
    have CB := Lib.hid hcb; clear hcb
    have HO := Lib.hid hown; clear hown
    have OC := Lib.hid hoc; clear hoc
    have BW := Lib.hid hbw; clear hbw
    have HGB := Lib.hid hgb; clear hgb
    have HBZ := Lib.hid hbz; clear hbz
    have HAL := Lib.hid hal; clear hal
    have HE1 := Lib.hid he1; clear he1
    have HE2 := Lib.hid he2; clear he2
    by_cases hlt : j < N
    · have hN8 : N = n12 := hN3 (by omega)
      have hjn : (j : Int) < (n12 : Int) := by omega
      have hn84 : (n12 : Int) ≤ 18 := by omega
      obtain ⟨x1, q1, c1, hc1⟩ : ∃ a b c, scanNum rj bj = (a, b, c) := ⟨_, _, _, rfl⟩
      have lq1 := (scanNum_len rj bj).1
      rw [hc1] at lq1
      simp only [] at lq1
      have hq1 : q1.length ≤ 1048576 := by omega
      clear lq1
      obtain ⟨x2, q2, c2, hc2⟩ : ∃ a b c, scanNum q1 c1 = (a, b, c) := ⟨_, _, _, rfl⟩
      have lq2 := (scanNum_len q1 c1).1
      rw [hc2] at lq2
      simp only [] at lq2
      have hq2 : q2.length ≤ 1048576 := by omega
      clear lq2
      have he1 := HE1.out
      have he2 := HE2.out
      rw [show N - j = (N - (j + 1)) + 1 by omega, pairsL] at he1 he2
      simp only [hc1, hc2] at he1 he2
      have HE1' := Lib.hid (show (acc ++ [⟨(x1 : Int), (x2 : Int)⟩]) ++ (pairsL (N - (j + 1)) q2 c2).1 = acc13 by rw [← he1, List.append_assoc]; rfl)
      have HE2' := Lib.hid he2
      clear he1 he2 HE1 HE2
      have HC1 := Lib.hid hc1; clear hc1
      have HC2 := Lib.hid hc2; clear hc2
      go_wp2_with fail
      refine (scanNum_any (w.heap.size + 1) rj bj _ (by omega) HS.out).mono ?_; rintro e v2 ⟨rfl, hs, hg⟩
      rw [HC1.out] at hs ⊢
      simp only [] at hs ⊢
      clear HS
      have HS := Lib.hid hs; clear hs
      have X := Lib.hid (ZB.out.grown hg (by omega)); clear ZB
      have ZB := Lib.hid X.out; clear X
      have X := Lib.hid (CB.out.grown hg (fun e => by have := HGC.out; omega)); clear CB
      have CB := Lib.hid X.out; clear X
      have X := Lib.hid (OC.out.keep fun b hb => hg.block b (OC.out.in b hb).2 (fun e => by injection e with e; have h1 := (HF0.out b hb).1; have := HGC.out; omega)); clear OC
      have OC := Lib.hid X.out; clear X
      have X := Lib.hid (HO.out.kept hg (.inr (fun e => by have h1 := (HO.out.lt _ e).1; have h2 := HBS.out; have := HGC.out; omega))); clear HO
      have HO := Lib.hid X.out; clear X
      have X := Lib.hid (Nat.le_trans HGB.out hg.size); clear HGB
      have HGB := Lib.hid X.out; clear X
      have X := Lib.hid (Nat.le_trans HBZ.out hg.size); clear HBZ
      have HBZ := Lib.hid X.out; clear X
      have X := Lib.hid (Below.grown BW.out hg BW.out.size (fun k hk => by injection hk with hk; omega)); clear BW hg
      have BW := Lib.hid X.out; clear X
      obtain ⟨gd, hgd⟩ : ∃ g, g = v2.heap.size := ⟨_, rfl⟩
      have HGD := Lib.hid hgd; clear hgd
      have HDG := Lib.hid (show HBs ≤ gd by rw [HGD.out]; exact HBZ.out)
      have hHOlt : ∀ k, (Value.slice Aj j kj).ownBlock = some k → HBs ≤ k ∧ k < gd := fun k hk => by rw [HGD.out]; exact HO.out.lt k hk
      have HOLT := Lib.hid hHOlt; clear hHOlt
      have hDB : Blk (v2.alloc (.cells #[.int .i64 (x1 : Int), .int .i64 0] 32)) gd 32 [.int .i64 (x1 : Int), .int .i64 0].toArray := by rw [HGD.out]; exact blk_new _ _ _
      have DB := Lib.hid hDB; clear hDB
      have X := Lib.hid (ZB.out.alloc (.cells #[.int .i64 (x1 : Int), .int .i64 0] 32)); clear ZB
      have ZB := Lib.hid X.out; clear X
      have X := Lib.hid (CB.out.alloc (.cells #[.int .i64 (x1 : Int), .int .i64 0] 32)); clear CB
      have CB := Lib.hid X.out; clear X
      have X := Lib.hid (ScanCell.of (HS.out.blk.alloc (.cells #[.int .i64 (x1 : Int), .int .i64 0] 32))); clear HS
      have HS := Lib.hid X.out; clear X
      have X := Lib.hid (HO.out.alloc (.cells #[.int .i64 (x1 : Int), .int .i64 0] 32)); clear HO
      have HO := Lib.hid X.out; clear X
      have X := Lib.hid (OC.out.below ((Below.refl _ v2).alloc (Nat.le_refl _) (.cells #[.int .i64 (x1 : Int), .int .i64 0] 32))); clear OC
      have OC := Lib.hid X.out; clear X
      have X := Lib.hid (BW.out.alloc BW.out.size (.cells #[.int .i64 (x1 : Int), .int .i64 0] 32)); clear BW
      have BW := Lib.hid X.out; clear X
      have X := Lib.hid (Nat.le_trans HGB.out ((Below.refl _ v2).alloc (Nat.le_refl _) (.cells #[.int .i64 (x1 : Int), .int .i64 0] 32)).size); clear HGB
      have HGB := Lib.hid X.out; clear X
      have X := Lib.hid (Nat.le_trans HBZ.out ((Below.refl _ v2).alloc (Nat.le_refl _) (.cells #[.int .i64 (x1 : Int), .int .i64 0] 32)).size); clear HBZ
      have HBZ := Lib.hid X.out; clear X
      have HGDS := Lib.hid (show gd + 1 ≤ (World.alloc v2 (.cells #[.int .i64 (x1 : Int), .int .i64 0] 32)).heap.size by rw [HGD.out]; simp)
      go_wp2_with fail
      rw [← HGD.out]
      refine (scanNum_any (w.heap.size + 1) q1 c1 _ (by omega) HS.out).mono ?_; rintro e v3 ⟨rfl, hs, hg⟩
      rw [HC2.out] at hs ⊢
      simp only [] at hs ⊢
      clear HS
      have HS := Lib.hid hs; clear hs
      have X := Lib.hid (ZB.out.grown hg (by omega)); clear ZB
      have ZB := Lib.hid X.out; clear X
      have X := Lib.hid (CB.out.grown hg (fun e => by have := HGC.out; omega)); clear CB
      have CB := Lib.hid X.out; clear X
      have X := Lib.hid (OC.out.keep fun b hb => hg.block b (OC.out.in b hb).2 (fun e => by injection e with e; have h1 := (HF0.out b hb).1; have := HGC.out; omega)); clear OC
      have OC := Lib.hid X.out; clear X
      have X := Lib.hid (HO.out.kept hg (.inr (fun e => by have h1 := (HO.out.lt _ e).1; have h2 := HBS.out; have := HGC.out; omega))); clear HO
      have HO := Lib.hid X.out; clear X
      have X := Lib.hid (DB.out.grown hg (fun e => by have := HDG.out; have := HGC.out; have := HBS.out; omega)); clear DB
      have DB := Lib.hid X.out; clear X
      have X := Lib.hid (Nat.le_trans HGB.out hg.size); clear HGB
      have HGB := Lib.hid X.out; clear X
      have X := Lib.hid (Nat.le_trans HBZ.out hg.size); clear HBZ
      have HBZ := Lib.hid X.out; clear X
      have X := Lib.hid (Below.grown BW.out hg BW.out.size (fun k hk => by injection hk with hk; omega)); clear BW hg
      have BW := Lib.hid X.out; clear X
      have hqd : v3.cell? ⟨gd, 1, none⟩ = some (.int .i64 0) := blk_cell0 (L := [.int .i64 (x1 : Int), .int .i64 0]) DB.out 1 rfl
      have hfd : v3.frozen? ⟨gd, 1, none⟩ = false := DB.out.frozen 1
      have X := Lib.hid (Blk.setOther CB.out (a := ⟨gd, 1, none⟩) (by have h1 := HDG.out; have h2 := HBS.out; have h3 := HGC.out; show gd ≠ _; omega) (.int .i64 (x2 : Int))); clear CB
      have CB := Lib.hid X.out; clear X
      have X := Lib.hid (Blk.setOther ZB.out (a := ⟨gd, 1, none⟩) (by have h1 := HDG.out; have h2 := HBS.out; have h3 := HGC.out; show gd ≠ _; omega) (.int .i64 (x2 : Int))); clear ZB
      have ZB := Lib.hid X.out; clear X
      have X := Lib.hid (ScanCell.of (Blk.setOther HS.out.blk (a := ⟨gd, 1, none⟩) (by have h1 := HDG.out; have h2 := HBS.out; have h3 := HGC.out; show gd ≠ _; omega) (.int .i64 (x2 : Int)))); clear HS
      have HS := Lib.hid X.out; clear X
      have X := Lib.hid (show Blk (World.setCell v3 ⟨gd, 1, none⟩ (.int .i64 (x2 : Int))) gd 32 [.int .i64 (x1 : Int), .int .i64 (x2 : Int)].toArray from blk_put0 DB.out 1 (.int .i64 (x2 : Int))); clear DB
      have DB := Lib.hid X.out; clear X
      have X := Lib.hid (show World.ownsRow (World.setCell v3 ⟨gd, 1, none⟩ (.int .i64 (x2 : Int))) HBs 32 2 (.slice Aj j kj) j (idCells acc) from ownsRow_keep HO.out (fun k hk => ⟨(HO.out.lt k hk).1, Below.heap_setCell _ _ _ _ (fun e => by have := (HOLT.out k hk).2; have e2 : k = gd := e; omega)⟩)); clear HO
      have HO := Lib.hid X.out; clear X
      have X := Lib.hid (show Own (World.setCell v3 ⟨gd, 1, none⟩ (.int .i64 (x2 : Int))) (gc + 1) (.sl 9 1 cmd.chunks.length (cat strC cmd.chunks) .nil) [.slice A0 cmd.chunks.length k0] F0 from OC.out.keep fun b hb => Below.heap_setCell _ _ _ _ (fun e => by have h1 := (HF0.out b hb).2; have h2 := HDG.out; have e2 : b = gd := e; omega)); clear OC
      have OC := Lib.hid X.out; clear X
      have X := Lib.hid (Below.setCell BW.out (p := ⟨gd, 1, none⟩) (by have h1 := HDG.out; have h2 := HBS.out; have h3 := HGC.out; show _ ≤ gd; omega) (.int .i64 (x2 : Int))); clear BW
      have BW := Lib.hid X.out; clear X
      have X := Lib.hid (show gc + 1 ≤ (World.heap (World.setCell v3 ⟨gd, 1, none⟩ (.int .i64 (x2 : Int)))).size by rw [setCell_size]; exact HGB.out); clear HGB
      have HGB := Lib.hid X.out; clear X
      have X := Lib.hid (show HBs ≤ (World.heap (World.setCell v3 ⟨gd, 1, none⟩ (.int .i64 (x2 : Int)))).size by rw [setCell_size]; exact HBZ.out); clear HBZ
      have HBZ := Lib.hid X.out; clear X
      have hq15 : World.cell? (World.setCell v3 ⟨gd, 1, none⟩ (.int .i64 (x2 : Int))) ⟨gc, 15, none⟩ = some (.slice Aj j kj) := blk_cell0 (L := [.int .i64 (n1 : Int), .int .i64 (n2 : Int), .int .i64 (n3 : Int), .int .i64 (n4 : Int), .int .i64 (n5 : Int), .int .i64 (n6 : Int), .int .i64 cmd.kind, .int .i64 cmd.client, .int .i64 cmd.no, .string (bs cmd.set), .string (bs cmd.name), .string (bs cmd.tag), .int .i64 cmd.n, .slice A0 cmd.chunks.length k0, .int .i64 (n9 : Int), .slice Aj j kj, .int .i64 (n7 : Int), .int .i64 ((n8 : Int) - 1), .bool (t10 == [1])]) CB.out 15 rfl
      have hnew : ∀ j u, [Value.int .i64 (x1 : Int), Value.int .i64 (x2 : Int)][j]? = some u → (World.alloc (World.setCell v3 ⟨gd, 1, none⟩ (.int .i64 (x2 : Int))) (.cells #[.int .i64 (x1 : Int), .int .i64 (x2 : Int)] 32)).cell? ((⟨v3.heap.size, 0, none⟩ : Addr).add j) = some u := by
        have h := blk_cells (blk_new (World.setCell v3 ⟨gd, 1, none⟩ (.int .i64 (x2 : Int))) #[.int .i64 (x1 : Int), .int .i64 (x2 : Int)] 32)
        rw [setCell_size] at h
        exact h
      have NEWC := Lib.hid hnew; clear hnew
      go_wp2_with (first
        | ((with_reducible show wpList _ _ _ ({ dst := _, op := Op.load 32 _, type := _, pos := _, after := _, guard := _ } :: _) _ _); refine wpList_load_row _ ⟨gd, 0, none⟩ rfl [.int .i64 (x1 : Int), .int .i64 (x2 : Int)] agg_Id rfl (blk_cells DB.out) ?_)
        | (at_builtin; go_must (refine wpList_app E_Id _ rfl _ _ rfl HBs _ j (idCells acc) rfl (HO.out.alloc _) _ _ _ [.int .i64 (x1 : Int), .int .i64 (x2 : Int)] rfl ⟨rfl, fun _ => ⟨_, rfl, NEWC.out⟩⟩ (by simp [Value.oneCell']) (by omega) (Nat.le_trans HBZ.out (by simp)) ?_; intro vv w4 hown3 hg3 hat3; obtain ⟨Av, kv, rfl, _⟩ := SlR.of_own hown3; have hgb3 : ∀ k, (Value.slice Aj j kj).ownBlock = some k → HBs ≤ k := (fun k hk => (HO.out.lt k hk).1); have hcb3 := Blk.keep (CB.out.alloc (.cells #[.int .i64 (x1 : Int), .int .i64 (x2 : Int)] 32)) (hg3.block _ (CB.out.alloc _).lt (fun e => by have := hgb3 _ e.symm; have := HBS.out; omega)); have hq3 : w4.cell? ⟨gc, 15, none⟩ = some (.slice Aj j kj) := blk_cell0 (L := [.int .i64 (n1 : Int), .int .i64 (n2 : Int), .int .i64 (n3 : Int), .int .i64 (n4 : Int), .int .i64 (n5 : Int), .int .i64 (n6 : Int), .int .i64 cmd.kind, .int .i64 cmd.client, .int .i64 cmd.no, .string (bs cmd.set), .string (bs cmd.name), .string (bs cmd.tag), .int .i64 cmd.n, .slice A0 cmd.chunks.length k0, .int .i64 (n9 : Int), .slice Aj j kj, .int .i64 (n7 : Int), .int .i64 ((n8 : Int) - 1), .bool (t10 == [1])]) hcb3 15 rfl; have hfz3 : w4.frozen? ⟨gc, 15, none⟩ = false := hcb3.frozen 15; have HCB3 := Lib.hid hcb3; have HO3 := Lib.hid hown3; have HG3 := Lib.hid hg3; have HGB3 := Lib.hid hgb3; have HAT3 := Lib.hid hat3; clear hcb3 hown3 hg3 hgb3 hat3))
        | fail)
      have hbv : ∀ k, (Value.slice Av (j + 1) kv).ownBlock = some k → HBs ≤ k := fun k hk => (HO3.out.lt k hk).1
      have hsc3 : ScanCell w4 (w.heap.size + 1) q2 c2 := ScanCell.of (Blk.keep (HS.out.blk.alloc (.cells #[.int .i64 (x1 : Int), .int .i64 (x2 : Int)] 32)) (HG3.out.block _ (HS.out.blk.alloc _).lt (fun e => by have := HGB3.out _ e.symm; have := HGC.out; have := HBS.out; omega)))
      have hzb3 := Blk.keep (ZB.out.alloc (.cells #[.int .i64 (x1 : Int), .int .i64 (x2 : Int)] 32)) (HG3.out.block _ (ZB.out.alloc _).lt (fun e => by have := HGB3.out _ e.symm; have := HGC.out; have := HBS.out; omega))
      have hoc3 := (OC.out.below ((Below.refl _ _).alloc (Nat.le_refl _) (.cells #[.int .i64 (x1 : Int), .int .i64 (x2 : Int)] 32))).keep (w' := w4) fun b hb => HG3.out.block b (Nat.lt_of_lt_of_le (OC.out.in b hb).2 (by simp)) (fun e => by have h1 := HGB3.out _ e.symm; have h2 := (HF0.out b hb).2; omega)
      have hbw3 : Below w.heap.size w w4 := Below.grown (BW.out.alloc BW.out.size _) HG3.out (Nat.le_trans BW.out.size (by simp)) (fun k hk => by have := HGB3.out k hk; have := HGC.out; have := HBS.out; omega)
      have hsz4 : (World.heap (World.setCell v3 ⟨gd, 1, none⟩ (.int .i64 (x2 : Int)))).size ≤ w4.heap.size := Nat.le_trans (by simp) HG3.out.size
      have hown4 : (w4.setCell ⟨gc, 15, none⟩ (.slice Av (j + 1) kv)).ownsRow HBs 32 2 (.slice Av (j + 1) kv) (j + 1) (idCells (acc ++ [⟨(x1 : Int), (x2 : Int)⟩])) := by
        rw [idCells_app]
        exact ownsRow_keep HO3.out (fun k hk => ⟨(HO3.out.lt k hk).1, Below.heap_setCell _ _ _ _ (fun e => by have := hbv k hk; have := HBS.out; have e2 : k = gc := e; omega)⟩)
      exact ⟨⟨j + 1, acc ++ [⟨(x1 : Int), (x2 : Int)⟩], q2, c2, Av, kv, by omega, by go_num, by rw [List.length_append, HAL.out]; rfl, hq2, HE1'.out, HE2'.out, ScanCell.of (Blk.setOther hsc3.blk (a := ⟨gc, 15, none⟩) (by have := HGC.out; show gc ≠ _; omega) _), Blk.setOther hzb3 (a := ⟨gc, 15, none⟩) (by have := HGC.out; show gc ≠ _; omega) _, blk_put0 HCB3.out 15 _, hown4, hoc3.keep fun b hb => Below.heap_setCell _ _ _ _ (fun e => by have h1 := (HF0.out b hb).1; have e2 : b = gc := e; omega), Below.setCell hbw3 (p := ⟨gc, 15, none⟩) (by have := HGC.out; show _ ≤ gc; omega) _, by rw [setCell_size]; exact Nat.le_trans HGB.out hsz4, by rw [setCell_size]; exact Nat.le_trans HBZ.out hsz4⟩, by simp only [intOf]; omega⟩
    · have hjN : j = N := by omega
      subst hjN
      have he1 := HE1.out
      have he2 := HE2.out
      rw [Nat.sub_self, pairsL] at he1 he2
      simp only [List.append_nil] at he1
      injection he2 with e1 e2
      subst e1 e2 he1
      clear HE1 HE2 hlt
      have HCP := HPC.out
      have hbad : World.cell? wr ⟨w.heap.size + 1, 1, none⟩ = some (.bool bj) := HS.out.c1
      rw [← HAL.out] at HO CB
      obtain ⟨cc, hcc⟩ : ∃ cc : EMsgD, cc = ⟨(n1 : Int), (n2 : Int), (n3 : Int), ⟨(n4 : Int), (n5 : Int)⟩, (n6 : Int), cmd, (n9 : Int), acc, (n7 : Int), (n8 : Int) - 1, t10 == [1]⟩ := ⟨_, rfl⟩
      have hrep : Mine wr (gc + 1) cc.c [.int .i64 (n1 : Int), .int .i64 (n2 : Int), .int .i64 (n3 : Int), .int .i64 (n4 : Int), .int .i64 (n5 : Int), .int .i64 (n6 : Int), .int .i64 cmd.kind, .int .i64 cmd.client, .int .i64 cmd.no, .string (bs cmd.set), .string (bs cmd.name), .string (bs cmd.tag), .int .i64 cmd.n, .slice A0 cmd.chunks.length k0, .int .i64 (n9 : Int), .slice Aj acc.length kj, .int .i64 (n7 : Int), .int .i64 ((n8 : Int) - 1), .bool (t10 == [1])] := by
        obtain ⟨F1, hnd1, ho1⟩ := mine_ids HO.out rfl
        rw [hcc]
        exact ⟨F0 ++ F1, List.nodup_append.2 ⟨HND.out, hnd1, fun a ha b hb e => by have h1 := (HF0.out a ha).2; have h2 := (ho1.in b hb).1; omega⟩, EMsgD.shutO (x := ⟨(n1 : Int), (n2 : Int), (n3 : Int), ⟨(n4 : Int), (n5 : Int)⟩, (n6 : Int), cmd, (n9 : Int), acc, (n7 : Int), (n8 : Int) - 1, t10 == [1]⟩) OC.out (Own.mono ho1 HBS.out)⟩
      rw [← hcc] at HCP HWT
      have hR1 := @readE_i1 s
      have hR2 := @readE_i2 s
      rw [HCP, ← HR.out] at hR1 hR2
      simp only [] at hR1 hR2
      have HSH := Lib.hid (fun W hw h => iShowEMsg_any cc [.int .i64 (n1 : Int), .int .i64 (n2 : Int), .int .i64 (n3 : Int), .int .i64 (n4 : Int), .int .i64 (n5 : Int), .int .i64 (n6 : Int), .int .i64 cmd.kind, .int .i64 cmd.client, .int .i64 cmd.no, .string (bs cmd.set), .string (bs cmd.name), .string (bs cmd.tag), .int .i64 cmd.n, .slice A0 cmd.chunks.length k0, .int .i64 (n9 : Int), .slice Aj acc.length kj, .int .i64 (n7 : Int), .int .i64 ((n8 : Int) - 1), .bool (t10 == [1])] W hw h)
      obtain ⟨sh, hsh⟩ : ∃ sh, sh = showEMsgL cc := ⟨_, rfl⟩
      rw [← hsh] at HSH hR1 hR2
      have HR1 := Lib.hid hR1
      have HR2 := Lib.hid hR2
      have HREP := Lib.hid hrep
      have HCC := Lib.hid hcc
      clear hR1 hR2 hsh HCP hrep hcc HPC HR
      rcases Nat.lt_or_ge 18 n12 with hn84 | hn84
      · have hj0 := hN4 (by omega)
        have hn1 : (0 : Int) < (n12 : Int) := by omega
        have hn2 : ¬ (n12 : Int) ≤ 18 := by omega
        have HJ0 := Lib.hid hj0
        have hj1 : (j : Int) < (n12 : Int) := by omega
        clear hj0 hN1 hN2 hN3 hN4 hj hn84
        cases hbj : bj
        case true =>
          subst hbj
          have hRz := HR1.out (.inl rfl)
          subst hRz
          go_wp2_with (first | ((with_reducible show wpList _ _ _ ({ dst := _, op := Op.store 36 _ _, type := _, pos := _, after := _, guard := _ } :: _) _ _); refine wpList_store_row _ w.heap.size 36 0 [.int .i64 0, .int .i64 0, .int .i64 0, .int .i64 0, .int .i64 0, .int .i64 0, .int .i64 0, .int .i64 0, .int .i64 0, .string (bs []), .string (bs []), .string (bs []), .int .i64 0, .slice none 0 0, .int .i64 0, .slice none 0 0, .int .i64 0, .int .i64 0, .bool false] [] [.int .i64 0, .int .i64 0, .int .i64 0, .int .i64 0, .int .i64 0, .int .i64 0, .int .i64 0, .int .i64 0, .int .i64 0, .string (bs []), .string (bs []), .string (bs []), .int .i64 0, .slice none 0 0, .int .i64 0, .slice none 0 0, .int .i64 0, .int .i64 0, .bool false] [] _ rfl rfl agg_EMsg ZB.out rfl rfl rfl (by simp [Value.oneCell']) ?_; intro v9 hzb hzg) | fail)
          exact bodyPost_cell2 rfl ⟨w.heap.size, 0, none⟩ rfl [.int .i64 0, .int .i64 0, .int .i64 0, .int .i64 0, .int .i64 0, .int .i64 0, .int .i64 0, .int .i64 0, .int .i64 0, .string (bs []), .string (bs []), .string (bs []), .int .i64 0, .slice none 0 0, .int .i64 0, .slice none 0 0, .int .i64 0, .int .i64 0, .bool false] _ rfl agg_EMsg rfl (blk_cells hzb) rfl ⟨_, rfl, zeroE_mine _ _, Below.grown BW.out hzg BW.out.size (fun k hk => by injection hk with hk; omega)⟩
        case false =>
          subst hbj
          obtain ⟨hsn, hwt⟩ := HWT.out rfl
          have HSH := Lib.hid (fun W h => HSH.out W (Nat.le_trans hwt hs) h)
          clear hwt
          have hE1 : s.isEmpty = false := by cases s with | nil => exact absurd rfl hsn | cons _ _ => rfl
          go_wp2_with (first | ((with_reducible show wpList _ _ _ ({ dst := _, op := Op.load 36 _, type := _, pos := _, after := _, guard := _ } :: _) _ _); refine wpList_load_row_g _ (by first | rfl | kernel_rfl) ⟨gc, 0, none⟩ rfl [.int .i64 (n1 : Int), .int .i64 (n2 : Int), .int .i64 (n3 : Int), .int .i64 (n4 : Int), .int .i64 (n5 : Int), .int .i64 (n6 : Int), .int .i64 cmd.kind, .int .i64 cmd.client, .int .i64 cmd.no, .string (bs cmd.set), .string (bs cmd.name), .string (bs cmd.tag), .int .i64 cmd.n, .slice A0 cmd.chunks.length k0, .int .i64 (n9 : Int), .slice Aj acc.length kj, .int .i64 (n7 : Int), .int .i64 ((n8 : Int) - 1), .bool (t10 == [1])] agg_EMsg rfl (blk_cells CB.out) ?_) | fail)
          refine (HSH.out _ HREP.out.rep.any).mono ?_; rintro e v9 ⟨rfl, hb⟩
          have X := Lib.hid (ZB.out.below hb); clear ZB
          have ZB := Lib.hid X.out; clear X
          have X := Lib.hid (CB.out.below hb); clear CB
          have CB := Lib.hid X.out; clear X
          have X := Lib.hid (HREP.out.below hb); clear HREP
          have HREP := Lib.hid X.out; clear X
          have X := Lib.hid (show Below w.heap.size w v9 from BW.out.trans (hb.mono BW.out.size)); clear BW hb
          have BW := Lib.hid X.out; clear X
          by_cases hq : sh = s
          · have hRz := HR2.out hsn hq
            subst hRz
            have hb1 : (sh == s) = true := by simp [hq]
            clear hq hsn
            go_wp2_with (first | ((with_reducible show wpList _ _ _ ({ dst := _, op := Op.load 36 _, type := _, pos := _, after := _, guard := _ } :: _) _ _); refine wpList_load_row_g _ (by first | rfl | kernel_rfl) ⟨gc, 0, none⟩ rfl [.int .i64 (n1 : Int), .int .i64 (n2 : Int), .int .i64 (n3 : Int), .int .i64 (n4 : Int), .int .i64 (n5 : Int), .int .i64 (n6 : Int), .int .i64 cmd.kind, .int .i64 cmd.client, .int .i64 cmd.no, .string (bs cmd.set), .string (bs cmd.name), .string (bs cmd.tag), .int .i64 cmd.n, .slice A0 cmd.chunks.length k0, .int .i64 (n9 : Int), .slice Aj acc.length kj, .int .i64 (n7 : Int), .int .i64 ((n8 : Int) - 1), .bool (t10 == [1])] agg_EMsg rfl (blk_cells CB.out) ?_) | ((with_reducible show wpList _ _ _ ({ dst := _, op := Op.store 36 _ _, type := _, pos := _, after := _, guard := _ } :: _) _ _); refine wpList_store_row _ w.heap.size 36 0 [.int .i64 (n1 : Int), .int .i64 (n2 : Int), .int .i64 (n3 : Int), .int .i64 (n4 : Int), .int .i64 (n5 : Int), .int .i64 (n6 : Int), .int .i64 cmd.kind, .int .i64 cmd.client, .int .i64 cmd.no, .string (bs cmd.set), .string (bs cmd.name), .string (bs cmd.tag), .int .i64 cmd.n, .slice A0 cmd.chunks.length k0, .int .i64 (n9 : Int), .slice Aj acc.length kj, .int .i64 (n7 : Int), .int .i64 ((n8 : Int) - 1), .bool (t10 == [1])] [] [.int .i64 0, .int .i64 0, .int .i64 0, .int .i64 0, .int .i64 0, .int .i64 0, .int .i64 0, .int .i64 0, .int .i64 0, .string (bs []), .string (bs []), .string (bs []), .int .i64 0, .slice none 0 0, .int .i64 0, .slice none 0 0, .int .i64 0, .int .i64 0, .bool false] [] _ rfl rfl agg_EMsg ZB.out rfl rfl rfl (by simp [Value.oneCell']) ?_; intro v10 hzb hzg) | fail)
            exact bodyPost_cell2 rfl ⟨w.heap.size, 0, none⟩ rfl [.int .i64 (n1 : Int), .int .i64 (n2 : Int), .int .i64 (n3 : Int), .int .i64 (n4 : Int), .int .i64 (n5 : Int), .int .i64 (n6 : Int), .int .i64 cmd.kind, .int .i64 cmd.client, .int .i64 cmd.no, .string (bs cmd.set), .string (bs cmd.name), .string (bs cmd.tag), .int .i64 cmd.n, .slice A0 cmd.chunks.length k0, .int .i64 (n9 : Int), .slice Aj acc.length kj, .int .i64 (n7 : Int), .int .i64 ((n8 : Int) - 1), .bool (t10 == [1])] _ rfl agg_EMsg rfl (blk_cells hzb) rfl ⟨_, rfl, HREP.out.grownAt hzg (fun e => by have := HGC.out; omega) (by have := HGC.out; omega), Below.grown BW.out hzg BW.out.size (fun k hk => by injection hk with hk; omega)⟩
          · have hRz := HR1.out (.inr (.inr hq))
            subst hRz
            have hb1 : (sh == s) = false := by simpa using hq
            clear hq hsn
            go_wp2_with (first | ((with_reducible show wpList _ _ _ ({ dst := _, op := Op.store 36 _ _, type := _, pos := _, after := _, guard := _ } :: _) _ _); refine wpList_store_row _ w.heap.size 36 0 [.int .i64 0, .int .i64 0, .int .i64 0, .int .i64 0, .int .i64 0, .int .i64 0, .int .i64 0, .int .i64 0, .int .i64 0, .string (bs []), .string (bs []), .string (bs []), .int .i64 0, .slice none 0 0, .int .i64 0, .slice none 0 0, .int .i64 0, .int .i64 0, .bool false] [] [.int .i64 0, .int .i64 0, .int .i64 0, .int .i64 0, .int .i64 0, .int .i64 0, .int .i64 0, .int .i64 0, .int .i64 0, .string (bs []), .string (bs []), .string (bs []), .int .i64 0, .slice none 0 0, .int .i64 0, .slice none 0 0, .int .i64 0, .int .i64 0, .bool false] [] _ rfl rfl agg_EMsg ZB.out rfl rfl rfl (by simp [Value.oneCell']) ?_; intro v9 hzb hzg) | fail)
            exact bodyPost_cell2 rfl ⟨w.heap.size, 0, none⟩ rfl [.int .i64 0, .int .i64 0, .int .i64 0, .int .i64 0, .int .i64 0, .int .i64 0, .int .i64 0, .int .i64 0, .int .i64 0, .string (bs []), .string (bs []), .string (bs []), .int .i64 0, .slice none 0 0, .int .i64 0, .slice none 0 0, .int .i64 0, .int .i64 0, .bool false] _ rfl agg_EMsg rfl (blk_cells hzb) rfl ⟨_, rfl, zeroE_mine _ _, Below.grown BW.out hzg BW.out.size (fun k hk => by injection hk with hk; omega)⟩
      · have hj0 := hN3 (by omega)
        subst hj0
        clear hN1 hN2 hN3 hN4 hj hn84
        cases hbj : bj
        case true =>
          subst hbj
          have hRz := HR1.out (.inl rfl)
          subst hRz
          go_wp2_with (first | ((with_reducible show wpList _ _ _ ({ dst := _, op := Op.store 36 _ _, type := _, pos := _, after := _, guard := _ } :: _) _ _); refine wpList_store_row _ w.heap.size 36 0 [.int .i64 0, .int .i64 0, .int .i64 0, .int .i64 0, .int .i64 0, .int .i64 0, .int .i64 0, .int .i64 0, .int .i64 0, .string (bs []), .string (bs []), .string (bs []), .int .i64 0, .slice none 0 0, .int .i64 0, .slice none 0 0, .int .i64 0, .int .i64 0, .bool false] [] [.int .i64 0, .int .i64 0, .int .i64 0, .int .i64 0, .int .i64 0, .int .i64 0, .int .i64 0, .int .i64 0, .int .i64 0, .string (bs []), .string (bs []), .string (bs []), .int .i64 0, .slice none 0 0, .int .i64 0, .slice none 0 0, .int .i64 0, .int .i64 0, .bool false] [] _ rfl rfl agg_EMsg ZB.out rfl rfl rfl (by simp [Value.oneCell']) ?_; intro v9 hzb hzg) | fail)
          exact bodyPost_cell2 rfl ⟨w.heap.size, 0, none⟩ rfl [.int .i64 0, .int .i64 0, .int .i64 0, .int .i64 0, .int .i64 0, .int .i64 0, .int .i64 0, .int .i64 0, .int .i64 0, .string (bs []), .string (bs []), .string (bs []), .int .i64 0, .slice none 0 0, .int .i64 0, .slice none 0 0, .int .i64 0, .int .i64 0, .bool false] _ rfl agg_EMsg rfl (blk_cells hzb) rfl ⟨_, rfl, zeroE_mine _ _, Below.grown BW.out hzg BW.out.size (fun k hk => by injection hk with hk; omega)⟩
        case false =>
          subst hbj
          obtain ⟨hsn, hwt⟩ := HWT.out rfl
          have HSH := Lib.hid (fun W h => HSH.out W (Nat.le_trans hwt hs) h)
          clear hwt
          have hE1 : s.isEmpty = false := by cases s with | nil => exact absurd rfl hsn | cons _ _ => rfl
          go_wp2_with (first | ((with_reducible show wpList _ _ _ ({ dst := _, op := Op.load 36 _, type := _, pos := _, after := _, guard := _ } :: _) _ _); refine wpList_load_row_g _ (by first | rfl | kernel_rfl) ⟨gc, 0, none⟩ rfl [.int .i64 (n1 : Int), .int .i64 (n2 : Int), .int .i64 (n3 : Int), .int .i64 (n4 : Int), .int .i64 (n5 : Int), .int .i64 (n6 : Int), .int .i64 cmd.kind, .int .i64 cmd.client, .int .i64 cmd.no, .string (bs cmd.set), .string (bs cmd.name), .string (bs cmd.tag), .int .i64 cmd.n, .slice A0 cmd.chunks.length k0, .int .i64 (n9 : Int), .slice Aj acc.length kj, .int .i64 (n7 : Int), .int .i64 ((n8 : Int) - 1), .bool (t10 == [1])] agg_EMsg rfl (blk_cells CB.out) ?_) | fail)
          refine (HSH.out _ HREP.out.rep.any).mono ?_; rintro e v9 ⟨rfl, hb⟩
          have X := Lib.hid (ZB.out.below hb); clear ZB
          have ZB := Lib.hid X.out; clear X
          have X := Lib.hid (CB.out.below hb); clear CB
          have CB := Lib.hid X.out; clear X
          have X := Lib.hid (HREP.out.below hb); clear HREP
          have HREP := Lib.hid X.out; clear X
          have X := Lib.hid (show Below w.heap.size w v9 from BW.out.trans (hb.mono BW.out.size)); clear BW hb
          have BW := Lib.hid X.out; clear X
          by_cases hq : sh = s
          · have hRz := HR2.out hsn hq
            subst hRz
            have hb1 : (sh == s) = true := by simp [hq]
            clear hq hsn
            go_wp2_with (first | ((with_reducible show wpList _ _ _ ({ dst := _, op := Op.load 36 _, type := _, pos := _, after := _, guard := _ } :: _) _ _); refine wpList_load_row_g _ (by first | rfl | kernel_rfl) ⟨gc, 0, none⟩ rfl [.int .i64 (n1 : Int), .int .i64 (n2 : Int), .int .i64 (n3 : Int), .int .i64 (n4 : Int), .int .i64 (n5 : Int), .int .i64 (n6 : Int), .int .i64 cmd.kind, .int .i64 cmd.client, .int .i64 cmd.no, .string (bs cmd.set), .string (bs cmd.name), .string (bs cmd.tag), .int .i64 cmd.n, .slice A0 cmd.chunks.length k0, .int .i64 (n9 : Int), .slice Aj acc.length kj, .int .i64 (n7 : Int), .int .i64 ((n8 : Int) - 1), .bool (t10 == [1])] agg_EMsg rfl (blk_cells CB.out) ?_) | ((with_reducible show wpList _ _ _ ({ dst := _, op := Op.store 36 _ _, type := _, pos := _, after := _, guard := _ } :: _) _ _); refine wpList_store_row _ w.heap.size 36 0 [.int .i64 (n1 : Int), .int .i64 (n2 : Int), .int .i64 (n3 : Int), .int .i64 (n4 : Int), .int .i64 (n5 : Int), .int .i64 (n6 : Int), .int .i64 cmd.kind, .int .i64 cmd.client, .int .i64 cmd.no, .string (bs cmd.set), .string (bs cmd.name), .string (bs cmd.tag), .int .i64 cmd.n, .slice A0 cmd.chunks.length k0, .int .i64 (n9 : Int), .slice Aj acc.length kj, .int .i64 (n7 : Int), .int .i64 ((n8 : Int) - 1), .bool (t10 == [1])] [] [.int .i64 0, .int .i64 0, .int .i64 0, .int .i64 0, .int .i64 0, .int .i64 0, .int .i64 0, .int .i64 0, .int .i64 0, .string (bs []), .string (bs []), .string (bs []), .int .i64 0, .slice none 0 0, .int .i64 0, .slice none 0 0, .int .i64 0, .int .i64 0, .bool false] [] _ rfl rfl agg_EMsg ZB.out rfl rfl rfl (by simp [Value.oneCell']) ?_; intro v10 hzb hzg) | fail)
            exact bodyPost_cell2 rfl ⟨w.heap.size, 0, none⟩ rfl [.int .i64 (n1 : Int), .int .i64 (n2 : Int), .int .i64 (n3 : Int), .int .i64 (n4 : Int), .int .i64 (n5 : Int), .int .i64 (n6 : Int), .int .i64 cmd.kind, .int .i64 cmd.client, .int .i64 cmd.no, .string (bs cmd.set), .string (bs cmd.name), .string (bs cmd.tag), .int .i64 cmd.n, .slice A0 cmd.chunks.length k0, .int .i64 (n9 : Int), .slice Aj acc.length kj, .int .i64 (n7 : Int), .int .i64 ((n8 : Int) - 1), .bool (t10 == [1])] _ rfl agg_EMsg rfl (blk_cells hzb) rfl ⟨_, rfl, HREP.out.grownAt hzg (fun e => by have := HGC.out; omega) (by have := HGC.out; omega), Below.grown BW.out hzg BW.out.size (fun k hk => by injection hk with hk; omega)⟩
          · have hRz := HR1.out (.inr (.inr hq))
            subst hRz
            have hb1 : (sh == s) = false := by simpa using hq
            clear hq hsn
            go_wp2_with (first | ((with_reducible show wpList _ _ _ ({ dst := _, op := Op.store 36 _ _, type := _, pos := _, after := _, guard := _ } :: _) _ _); refine wpList_store_row _ w.heap.size 36 0 [.int .i64 0, .int .i64 0, .int .i64 0, .int .i64 0, .int .i64 0, .int .i64 0, .int .i64 0, .int .i64 0, .int .i64 0, .string (bs []), .string (bs []), .string (bs []), .int .i64 0, .slice none 0 0, .int .i64 0, .slice none 0 0, .int .i64 0, .int .i64 0, .bool false] [] [.int .i64 0, .int .i64 0, .int .i64 0, .int .i64 0, .int .i64 0, .int .i64 0, .int .i64 0, .int .i64 0, .int .i64 0, .string (bs []), .string (bs []), .string (bs []), .int .i64 0, .slice none 0 0, .int .i64 0, .slice none 0 0, .int .i64 0, .int .i64 0, .bool false] [] _ rfl rfl agg_EMsg ZB.out rfl rfl rfl (by simp [Value.oneCell']) ?_; intro v9 hzb hzg) | fail)
            exact bodyPost_cell2 rfl ⟨w.heap.size, 0, none⟩ rfl [.int .i64 0, .int .i64 0, .int .i64 0, .int .i64 0, .int .i64 0, .int .i64 0, .int .i64 0, .int .i64 0, .int .i64 0, .string (bs []), .string (bs []), .string (bs []), .int .i64 0, .slice none 0 0, .int .i64 0, .slice none 0 0, .int .i64 0, .int .i64 0, .bool false] _ rfl agg_EMsg rfl (blk_cells hzb) rfl ⟨_, rfl, zeroE_mine _ _, Below.grown BW.out hzg BW.out.size (fun k hk => by injection hk with hk; omega)⟩

end Go.Proofs.Ytbdblfpepnoafaa
namespace Go.Proofs.Ytbdblfpepnoafaa
open Go.RowKit

theorem bReadEMsg (s : List UInt8) (h : s.length ≤ 1048576) : (fReadEMsg s).1.c.wt ≤ 4611686018427387 ∧ (fReadEMsg s).1.cntT ≤ 4611686018427387 := by
  have key : ∀ m : EMsgD, m.cmd.c.wt ≤ 1048576 → m.deps.length ≤ 18 → m.c.wt ≤ 4611686018427387 ∧ m.cntT ≤ 4611686018427387 := fun m h1 h2 => by
    have e1 : m.cntT = m.cmd.cntT + cts IdD.cnt m.deps := rfl
    have e2 : m.cmd.cntT = cts (fun _ => 1) m.cmd.chunks := rfl
    have e3 : cts (fun _ : List UInt8 => 1) m.cmd.chunks = m.cmd.chunks.length := cts_one _
    have e4 := wt_cmd m.cmd
    have e5 := IdD.cts_le m.deps
    have e6 := wt_emsg m
    omega
  unfold fReadEMsg
  split
  · exact key _ (Nat.le_trans (parseE_cmd s) h) (parseE_deps s)
  · exact key zeroE (Nat.zero_le _) (Nat.zero_le _)

set_option maxRecDepth 100000 in
set_option maxHeartbeats 16000000 in
theorem sReadEMsg_any (s : List UInt8) (w : World) (hs : s.length ≤ 1048576) :
    Calls Try.prog 24 #[.string (bs s)] w fun e w' => ∃ cs', e = .returned (.tuple #[.agg cs'.toArray, .bool (fReadEMsg s).2]) ∧ Mine w' w.heap.size (fReadEMsg s).1.c cs' ∧ Below w.heap.size w w' := by
  obtain ⟨R, hR⟩ : ∃ R, R = fReadEMsg s := ⟨_, rfl⟩
  rw [← hR]
  obtain ⟨l, p0', hV⟩ : ∃ a b, l4V s 9 0 = (a, b) := ⟨_, _, rfl⟩
  have q0 := l4V_range s 9 0 (by omega) (.inr (by omega))
  have k0 := l4V_len s 9 0
  rw [hV] at q0 k0
  simp only [] at q0 k0
  obtain ⟨q0a, q0b⟩ := q0
  have F1 := @place_1 s l p0' hV
  rw [← hR] at F1
  have HF1 := Lib.hid F1; clear F1
  have HK0 := Lib.hid k0; clear k0
  have HV := Lib.hid hV; clear hV
  have HRR := Lib.hid hR; clear hR
  go_enter Try.func24, Try.ntmps24
  go_wp2_with fail
  refine (l4Vars_any s 0 9 _ (by omega) ⟨by omega, by omega⟩ (by omega)).mono ?_; rintro e v1 ⟨vl, rfl, hown, hb⟩
  rw [HV.out] at hown ⊢
  simp only [] at hown ⊢
  have ZB := Lib.hid (Blk.below (blk_new w #[.int .i64 0, .int .i64 0, .int .i64 0, .int .i64 0, .int .i64 0, .int .i64 0, .int .i64 0, .int .i64 0, .int .i64 0, .string (bs []), .string (bs []), .string (bs []), .int .i64 0, .slice none 0 0, .int .i64 0, .slice none 0 0, .int .i64 0, .int .i64 0, .bool false] 36) hb)
  have BW := Lib.hid (show Below w.heap.size w v1 from Below.trans (by repeat' (first | with_reducible exact Below.refl _ _ | with_reducible exact BW.out | with_reducible refine Below.setCell ?_ ?_ _ | with_reducible refine Below.alloc ?_ ?_ _ | with_reducible refine Below.drew ?_ | (simp; done) | (simp; omega) | omega)) (hb.mono (by first | (simp; done) | (simp; omega) | omega)))
  have HZ := Lib.hid (show w.heap.size + 1 ≤ v1.heap.size from Nat.le_trans (by simp) hb.size); clear hb
  have hown := ownsRow_keep (base' := w.heap.size + 1) hown (w' := v1) (fun k hk => ⟨by have := (hown.lt k hk).1; simp at this; omega, rfl⟩)
  by_cases h0 : p0' < 0
  · skip
    have hRz := HF1.out (.inl h0)
    subst hRz
    go_wp2_with (first | ((with_reducible show wpList _ _ _ ({ dst := _, op := Op.store 36 _ _, type := _, pos := _, after := _, guard := _ } :: _) _ _); refine wpList_store_row _ w.heap.size 36 0 [.int .i64 0, .int .i64 0, .int .i64 0, .int .i64 0, .int .i64 0, .int .i64 0, .int .i64 0, .int .i64 0, .int .i64 0, .string (bs []), .string (bs []), .string (bs []), .int .i64 0, .slice none 0 0, .int .i64 0, .slice none 0 0, .int .i64 0, .int .i64 0, .bool false] [] [.int .i64 0, .int .i64 0, .int .i64 0, .int .i64 0, .int .i64 0, .int .i64 0, .int .i64 0, .int .i64 0, .int .i64 0, .string (bs []), .string (bs []), .string (bs []), .int .i64 0, .slice none 0 0, .int .i64 0, .slice none 0 0, .int .i64 0, .int .i64 0, .bool false] [] _ rfl rfl agg_EMsg ZB.out rfl rfl rfl (by simp [Value.oneCell']) ?_; intro v9 hzb hzg) | fail)
    exact bodyPost_cell2 rfl ⟨w.heap.size, 0, none⟩ rfl [.int .i64 0, .int .i64 0, .int .i64 0, .int .i64 0, .int .i64 0, .int .i64 0, .int .i64 0, .int .i64 0, .int .i64 0, .string (bs []), .string (bs []), .string (bs []), .int .i64 0, .slice none 0 0, .int .i64 0, .slice none 0 0, .int .i64 0, .int .i64 0, .bool false] _ rfl agg_EMsg rfl (blk_cells hzb) rfl ⟨_, rfl, zeroE_mine _ _, Below.grown BW.out hzg BW.out.size (fun k hk => by injection hk with hk; omega)⟩
  by_cases h0s : (s.length : Int) ≤ p0'
  · have h0n : ¬ p0' < 0 := h0
    have hRz := HF1.out (.inr h0s)
    subst hRz
    go_wp2_with (first | ((with_reducible show wpList _ _ _ ({ dst := _, op := Op.store 36 _ _, type := _, pos := _, after := _, guard := _ } :: _) _ _); refine wpList_store_row _ w.heap.size 36 0 [.int .i64 0, .int .i64 0, .int .i64 0, .int .i64 0, .int .i64 0, .int .i64 0, .int .i64 0, .int .i64 0, .int .i64 0, .string (bs []), .string (bs []), .string (bs []), .int .i64 0, .slice none 0 0, .int .i64 0, .slice none 0 0, .int .i64 0, .int .i64 0, .bool false] [] [.int .i64 0, .int .i64 0, .int .i64 0, .int .i64 0, .int .i64 0, .int .i64 0, .int .i64 0, .int .i64 0, .int .i64 0, .string (bs []), .string (bs []), .string (bs []), .int .i64 0, .slice none 0 0, .int .i64 0, .slice none 0 0, .int .i64 0, .int .i64 0, .bool false] [] _ rfl rfl agg_EMsg ZB.out rfl rfl rfl (by simp [Value.oneCell']) ?_; intro v9 hzb hzg) | fail)
    exact bodyPost_cell2 rfl ⟨w.heap.size, 0, none⟩ rfl [.int .i64 0, .int .i64 0, .int .i64 0, .int .i64 0, .int .i64 0, .int .i64 0, .int .i64 0, .int .i64 0, .int .i64 0, .string (bs []), .string (bs []), .string (bs []), .int .i64 0, .slice none 0 0, .int .i64 0, .slice none 0 0, .int .i64 0, .int .i64 0, .bool false] _ rfl agg_EMsg rfl (blk_cells hzb) rfl ⟨_, rfl, zeroE_mine _ _, Below.grown BW.out hzg BW.out.size (fun k hk => by injection hk with hk; omega)⟩
  have hl9 := HK0.out.2.1 (by omega)
  obtain ⟨p0, rfl⟩ := Int.eq_ofNat_of_zero_le (show 0 ≤ p0' by omega)
  obtain ⟨x0, x1, x2, x3, x4, x5, x6, x7, x8, rfl⟩ : ∃ a b c d e f g h i, l = [a, b, c, d, e, f, g, h, i] := by
    match l, hl9 with
    | [a, b, c, d, e, f, g, h, i], _ => exact ⟨a, b, c, d, e, f, g, h, i, rfl⟩
  clear hl9
  have hx7 := HK0.out.2.2 x7 (by simp)
  have hp0 : p0 < s.length := by omega
  obtain ⟨gl, cl, rfl, hgl1, hgl2⟩ := own_form hown (by simp)
  have HL := Lib.hid hown; clear hown
  have HGL := Lib.hid hgl2; clear hgl2 hgl1
  obtain ⟨t, p1, hT⟩ : ∃ a b, l4T s ((p0 : Int) + 1) = (a, b) := ⟨_, _, rfl⟩
  obtain ⟨ln, p2, hN⟩ : ∃ a b, l4V s 1 p1 = (a, b) := ⟨_, _, rfl⟩
  have q1 := l4T_range s ((p0 : Int) + 1) (by omega)
  have lt := l4T_len s ((p0 : Int) + 1)
  have ad1 := l4T_adv s ((p0 : Int) + 1)
  rw [hT] at q1 lt ad1
  simp only [] at q1 lt ad1
  obtain ⟨q1a, q1b⟩ := q1
  have q2 := l4V_range s 1 p1 q1a (.inr (by omega))
  have k2 := l4V_len s 1 p1
  have ad2 := l4V_adv s 1 p1
  rw [hN] at q2 k2 ad2
  simp only [] at q2 k2 ad2
  obtain ⟨q2a, q2b⟩ := q2
  have lt' : t.length ≤ 1048576 := by omega
  have F2 := @place_2 s _ ln p0 p1 p2 t HV.out hT hN
  rw [← HRR.out] at F2
  have HF2 := Lib.hid F2; clear F2
  have HAD := Lib.hid (show 0 ≤ p2 → (t.length : Int) + 2 ≤ p2 from fun h => by have h1 := ad2 h; have h2 := ad1 h1.2; omega); clear ad1 ad2
  have HK2 := Lib.hid k2; clear k2
  have HT := Lib.hid hT; clear hT
  have HN := Lib.hid hN; clear hN
  have hc0 : v1.cell? ⟨gl, 0, none⟩ = some (.int .i64 (x0 : Int)) := World.ownsRow.cells (g := gl) HL.out rfl 0 _ rfl
  have hc1 : v1.cell? ⟨gl, 1, none⟩ = some (.int .i64 (x1 : Int)) := World.ownsRow.cells (g := gl) HL.out rfl 1 _ rfl
  have hc2 : v1.cell? ⟨gl, 2, none⟩ = some (.int .i64 (x2 : Int)) := World.ownsRow.cells (g := gl) HL.out rfl 2 _ rfl
  have hc3 : v1.cell? ⟨gl, 3, none⟩ = some (.int .i64 (x3 : Int)) := World.ownsRow.cells (g := gl) HL.out rfl 3 _ rfl
  have hc4 : v1.cell? ⟨gl, 4, none⟩ = some (.int .i64 (x4 : Int)) := World.ownsRow.cells (g := gl) HL.out rfl 4 _ rfl
  have hc5 : v1.cell? ⟨gl, 5, none⟩ = some (.int .i64 (x5 : Int)) := World.ownsRow.cells (g := gl) HL.out rfl 5 _ rfl
  have hc6 : v1.cell? ⟨gl, 6, none⟩ = some (.int .i64 (x6 : Int)) := World.ownsRow.cells (g := gl) HL.out rfl 6 _ rfl
  have hc7 : v1.cell? ⟨gl, 7, none⟩ = some (.int .i64 (x7 : Int)) := World.ownsRow.cells (g := gl) HL.out rfl 7 _ rfl
  have hc8 : v1.cell? ⟨gl, 8, none⟩ = some (.int .i64 (x8 : Int)) := World.ownsRow.cells (g := gl) HL.out rfl 8 _ rfl
  have hv7 : wrap64 ((x7 : Int) - 1) = (x7 : Int) - 1 := by unfold wrap64; omega
  have HV7 := Lib.hid hv7; clear hv7
  have hgd : s.getD p0 0 = s[p0] := by simp [hp0]
  obtain ⟨sm, hsm⟩ : ∃ sm : Bool, sm = (s.getD p0 0 == 1) := ⟨_, rfl⟩
  have HSM := Lib.hid hsm
  have hsx : ((s[p0].toNat : Int) == 1) = sm := by
    rw [hsm, hgd]
    rw [Bool.eq_iff_iff]
    simp only [beq_iff_eq]
    exact ⟨fun h => UInt8.toNat_inj.1 (by have h1 : (1 : UInt8).toNat = 1 := rfl; omega), fun h => by rw [h]; rfl⟩
  have hxb := s[p0].toNat_lt
  clear hsm hgd
  go_wp2
  refine wp_region_h 35 [] [0, 1, 2, 3, 4, 5, 6, 7, 8, 9, 10, 11, 12, 13, 14, 15, 16, 17, 18, 19, 20, 21, 22, 23, 24, 25, 26, 27, 28, 29, 30, 31, 32, 33, 34] [35] (by kernel_rfl) (by kernel_rfl) ?_
  refine wpFl_nil ?_
  iterate 15 (refine wpH_quiet rfl rfl (by kernel_rfl) rfl ?_; go_wp2; refine ⟨rfl, ?_⟩)
  refine wpH_build rfl rfl rfl #[.int .i64 (x3 : Int), .int .i64 (x4 : Int)] (by kernel_rfl) ?_
  iterate 17 (refine wpH_quiet rfl rfl (by kernel_rfl) rfl ?_; go_wp2; refine ⟨rfl, ?_⟩)
  refine wpH_build rfl rfl rfl #[.int .i64 (x0 : Int), .int .i64 (x1 : Int), .int .i64 (x2 : Int), .int .i64 (x3 : Int), .int .i64 (x4 : Int), .int .i64 (x5 : Int), .int .i64 0, .int .i64 0, .int .i64 0, .string (bs []), .string (bs []), .string (bs []), .int .i64 0, .slice none 0 0, .int .i64 (x8 : Int), .slice none 0 0, .int .i64 (x6 : Int), .int .i64 ((x7 : Int) - 1), .bool sm] (by kernel_rfl) ?_
  refine wpH_actor rfl rfl (by kernel_rfl) ?_
  go_wp2
  refine ⟨Ext.alloc (Ext.refl _) _, ?_⟩
  refine wpH_nil ?_
  simp only [pickOps, List.getElem?_toArray, List.getElem?_cons_succ, List.getElem?_cons_zero]
  obtain ⟨gc, hgc⟩ : ∃ g, g = v1.heap.size := ⟨_, rfl⟩
  have HGE := Lib.hid hgc; clear hgc
  clear hc0 hc1 hc2 hc3 hc4 hc5 hc6 hc7 hc8
  go_wp2_with (first | ((with_reducible show wpList _ _ _ ({ dst := _, op := Op.store 36 _ _, type := _, pos := _, after := _, guard := _ } :: _) _ _); go_must (refine wpList_store_row _ v1.heap.size 36 0 [.int .i64 (x0 : Int), .int .i64 (x1 : Int), .int .i64 (x2 : Int), .int .i64 (x3 : Int), .int .i64 (x4 : Int), .int .i64 (x5 : Int), .int .i64 0, .int .i64 0, .int .i64 0, .string (bs []), .string (bs []), .string (bs []), .int .i64 0, .slice none 0 0, .int .i64 (x8 : Int), .slice none 0 0, .int .i64 (x6 : Int), .int .i64 ((x7 : Int) - 1), .bool sm] [] [.int .i64 0, .int .i64 0, .int .i64 0, .int .i64 0, .int .i64 0, .int .i64 0, .int .i64 0, .int .i64 0, .int .i64 0, .string (bs []), .string (bs []), .string (bs []), .int .i64 0, .slice none 0 0, .int .i64 0, .slice none 0 0, .int .i64 0, .int .i64 0, .bool false] [] _ rfl rfl agg_EMsg ((blk_new v1 _ _).drew) rfl rfl rfl (by simp [Value.oneCell']) ?_; intro v2 hsb hg)) | fail)
  refine ⟨trivial, ?_⟩
  rw [← HGE.out] at hsb hg ⊢
  have CB := Lib.hid (show Blk v2 gc 36 [.int .i64 (x0 : Int), .int .i64 (x1 : Int), .int .i64 (x2 : Int), .int .i64 (x3 : Int), .int .i64 (x4 : Int), .int .i64 (x5 : Int), .int .i64 0, .int .i64 0, .int .i64 0, .string (bs []), .string (bs []), .string (bs []), .int .i64 0, .slice none 0 0, .int .i64 (x8 : Int), .slice none 0 0, .int .i64 (x6 : Int), .int .i64 ((x7 : Int) - 1), .bool sm].toArray by simpa using hsb)
  have HGC := Lib.hid (show w.heap.size + 1 ≤ gc by rw [HGE.out]; exact HZ.out)
  have X := Lib.hid ((ZB.out.alloc _).drew.grown hg (fun e => by have := HGC.out; omega)); clear ZB
  have ZB := Lib.hid X.out; clear X
  have X := Lib.hid (Below.grown (BW.out.alloc BW.out.size _).drew hg (Nat.le_trans BW.out.size (by simp)) (fun k hk => by injection hk with hk; have := HGC.out; omega)); clear BW
  have BW := Lib.hid X.out; clear X
  have HGB := Lib.hid (show gc + 1 ≤ v2.heap.size from Nat.le_trans (by rw [HGE.out]; simp) hg.size)
  clear hsb hg HGE HZ HL HGL HK0
  go_wp2_with fail
  refine (l4Take_any s ((p0 : Int) + 1) _ (by omega) ⟨by omega, by omega⟩).mono ?_; rintro e v3 ⟨rfl, hb⟩
  rw [HT.out]
  simp only []
  have X := Lib.hid (ZB.out.below hb); clear ZB
  have ZB := Lib.hid X.out; clear X
  have X := Lib.hid (CB.out.below hb); clear CB
  have CB := Lib.hid X.out; clear X
  have X := Lib.hid (Nat.le_trans HGB.out hb.size); clear HGB
  have HGB := Lib.hid X.out; clear X
  have X := Lib.hid (show Below w.heap.size w v3 from BW.out.trans (hb.mono BW.out.size)); clear BW hb
  have BW := Lib.hid X.out; clear X
  go_wp2_with fail
  refine (l4Vars_any s p1 1 _ (by omega) ⟨by omega, by omega⟩ (by omega)).mono ?_; rintro e v4 ⟨vn, rfl, hown, hb⟩
  rw [HN.out] at hown ⊢
  simp only [] at hown ⊢
  have hown := ownsRow_keep (base' := gc + 1) hown (w' := v4) (fun k hk => ⟨by have := (hown.lt k hk).1; have := HGB.out; omega, rfl⟩)
  have X := Lib.hid (ZB.out.below hb); clear ZB
  have ZB := Lib.hid X.out; clear X
  have X := Lib.hid (CB.out.below hb); clear CB
  have CB := Lib.hid X.out; clear X
  have X := Lib.hid (Nat.le_trans HGB.out hb.size); clear HGB
  have HGB := Lib.hid X.out; clear X
  have X := Lib.hid (show Below w.heap.size w v4 from BW.out.trans (hb.mono BW.out.size)); clear BW hb
  have BW := Lib.hid X.out; clear X
  by_cases h4 : p2 < 0
  · skip
    have hRz := HF2.out (.inl h4)
    subst hRz
    go_wp2_with (first | ((with_reducible show wpList _ _ _ ({ dst := _, op := Op.store 36 _ _, type := _, pos := _, after := _, guard := _ } :: _) _ _); refine wpList_store_row _ w.heap.size 36 0 [.int .i64 0, .int .i64 0, .int .i64 0, .int .i64 0, .int .i64 0, .int .i64 0, .int .i64 0, .int .i64 0, .int .i64 0, .string (bs []), .string (bs []), .string (bs []), .int .i64 0, .slice none 0 0, .int .i64 0, .slice none 0 0, .int .i64 0, .int .i64 0, .bool false] [] [.int .i64 0, .int .i64 0, .int .i64 0, .int .i64 0, .int .i64 0, .int .i64 0, .int .i64 0, .int .i64 0, .int .i64 0, .string (bs []), .string (bs []), .string (bs []), .int .i64 0, .slice none 0 0, .int .i64 0, .slice none 0 0, .int .i64 0, .int .i64 0, .bool false] [] _ rfl rfl agg_EMsg ZB.out rfl rfl rfl (by simp [Value.oneCell']) ?_; intro v9 hzb hzg) | fail)
    exact bodyPost_cell2 rfl ⟨w.heap.size, 0, none⟩ rfl [.int .i64 0, .int .i64 0, .int .i64 0, .int .i64 0, .int .i64 0, .int .i64 0, .int .i64 0, .int .i64 0, .int .i64 0, .string (bs []), .string (bs []), .string (bs []), .int .i64 0, .slice none 0 0, .int .i64 0, .slice none 0 0, .int .i64 0, .int .i64 0, .bool false] _ rfl agg_EMsg rfl (blk_cells hzb) rfl ⟨_, rfl, zeroE_mine _ _, Below.grown BW.out hzg BW.out.size (fun k hk => by injection hk with hk; omega)⟩
  have hn1 := HK2.out.2.1 (by omega)
  obtain ⟨n, rfl⟩ : ∃ a, ln = [a] := by
    match ln, hn1 with
    | [a], _ => exact ⟨a, rfl⟩
  have hnb := HK2.out.2.2 n (by simp)
  clear hn1
  obtain ⟨gn, cn, rfl, hgn1, hgn2⟩ := own_form hown (by simp)
  have HNN := Lib.hid hown; clear hown
  have hn0 : v4.cell? ⟨gn, 0, none⟩ = some (.int .i64 (n : Int)) := World.ownsRow.cells (g := gn) HNN.out rfl 0 _ rfl
  by_cases hn18 : 18 < n
  · have hn18' : (18 : Int) < (n : Int) := by omega
    have hRz := HF2.out (.inr ⟨n, rfl, hn18⟩)
    subst hRz
    go_wp2_with (first | ((with_reducible show wpList _ _ _ ({ dst := _, op := Op.store 36 _ _, type := _, pos := _, after := _, guard := _ } :: _) _ _); refine wpList_store_row _ w.heap.size 36 0 [.int .i64 0, .int .i64 0, .int .i64 0, .int .i64 0, .int .i64 0, .int .i64 0, .int .i64 0, .int .i64 0, .int .i64 0, .string (bs []), .string (bs []), .string (bs []), .int .i64 0, .slice none 0 0, .int .i64 0, .slice none 0 0, .int .i64 0, .int .i64 0, .bool false] [] [.int .i64 0, .int .i64 0, .int .i64 0, .int .i64 0, .int .i64 0, .int .i64 0, .int .i64 0, .int .i64 0, .int .i64 0, .string (bs []), .string (bs []), .string (bs []), .int .i64 0, .slice none 0 0, .int .i64 0, .slice none 0 0, .int .i64 0, .int .i64 0, .bool false] [] _ rfl rfl agg_EMsg ZB.out rfl rfl rfl (by simp [Value.oneCell']) ?_; intro v9 hzb hzg) | fail)
    exact bodyPost_cell2 rfl ⟨w.heap.size, 0, none⟩ rfl [.int .i64 0, .int .i64 0, .int .i64 0, .int .i64 0, .int .i64 0, .int .i64 0, .int .i64 0, .int .i64 0, .int .i64 0, .string (bs []), .string (bs []), .string (bs []), .int .i64 0, .slice none 0 0, .int .i64 0, .slice none 0 0, .int .i64 0, .int .i64 0, .bool false] _ rfl agg_EMsg rfl (blk_cells hzb) rfl ⟨_, rfl, zeroE_mine _ _, Below.grown BW.out hzg BW.out.size (fun k hk => by injection hk with hk; omega)⟩
  have hn18' : ¬ (18 : Int) < (n : Int) := by omega
  have AL0 := Lib.hid (along_0 HV.out HT.out HN.out)
  have hq2 := HAD.out (by omega)
  go_wp2_with fail
  have hcm := fReadCmd_wt t
  have HRC := Lib.hid (fun W => sReadCmd_any t W lt')
  have F4 := fun acc p => @place_4 s p0 n p2 t acc p x0 x1 x2 x3 x4 x5 x6 x7 x8
  have F3 := fun j acc p d e => @place_3 s [x0, x1, x2, x3, x4, x5, x6, x7, x8] p0 n p2 t j acc p d e
  rw [← HRR.out] at F3 F4
  have HF3 := Lib.hid F3; clear F3
  have HF4 := Lib.hid F4; clear F4
  generalize hRC : fReadCmd t = RC at *
  clear hRC
  obtain ⟨cmd, okc⟩ := RC
  simp only [] at hcm HRC HF4
  refine (HRC.out _).mono ?_; rintro e v5 ⟨csC, rfl, hMi, hb⟩
  obtain ⟨F0, hnd0, ho0⟩ := hMi
  have HF0 := Lib.hid (show ∀ b ∈ F0, gc + 1 ≤ b ∧ b < v5.heap.size from fun b hb => ⟨Nat.le_trans HGB.out (ho0.in b hb).1, (ho0.in b hb).2⟩)
  have H1C := Lib.hid ho0.one
  obtain ⟨A0, k0, F0', rfl, rfl, hs0⟩ := CmdD.openO ho0
  have OC := Lib.hid (Own.mono hs0 HGB.out)
  have HND := Lib.hid hnd0
  clear ho0 hs0 hnd0 HRC hn0
  have X := Lib.hid (ZB.out.below hb); clear ZB
  have ZB := Lib.hid X.out; clear X
  have X := Lib.hid (CB.out.below hb); clear CB
  have CB := Lib.hid X.out; clear X
  have X := Lib.hid (HNN.out.keptBelow hb); clear HNN
  have HNN := Lib.hid X.out; clear X
  have X := Lib.hid (Nat.le_trans HGB.out hb.size); clear HGB
  have HGB := Lib.hid X.out; clear X
  have X := Lib.hid (show Below w.heap.size w v5 from BW.out.trans (hb.mono BW.out.size)); clear BW hb
  have BW := Lib.hid X.out; clear X
  obtain ⟨gq, hgq⟩ : ∃ g, g = v5.heap.size := ⟨_, rfl⟩
  rw [← hgq] at HF0
  have HGN := Lib.hid (show gc < gn ∧ gn < gq by have h1 := HNN.out.lt gn rfl; rw [hgq]; exact ⟨h1.1, h1.2⟩)
  have HGQ := Lib.hid (show gc + 1 ≤ gq by rw [hgq]; exact HGB.out)
  have HQE := Lib.hid hgq; clear hgq
  go_wp2_with (first
    | ((with_reducible show wpList _ _ _ ({ dst := _, op := Op.store 33 _ _, type := _, pos := _, after := _, guard := _ } :: _) _ _); refine wpList_store_row _ v5.heap.size 33 0 [.int .i64 cmd.kind, .int .i64 cmd.client, .int .i64 cmd.no, .string (bs cmd.set), .string (bs cmd.name), .string (bs cmd.tag), .int .i64 cmd.n, .slice A0 cmd.chunks.length k0] [] [.int .i64 0, .int .i64 0, .int .i64 0, .string (bs []), .string (bs []), .string (bs []), .int .i64 0, .slice none 0 0] [] _ rfl rfl agg_Cmd (blk_new v5 _ _) rfl rfl rfl H1C.out ?_; intro v6 hsb hg; rw [← HQE.out] at hsb hg ⊢; have QB := Lib.hid (show Blk v6 gq 33 [.int .i64 cmd.kind, .int .i64 cmd.client, .int .i64 cmd.no, .string (bs cmd.set), .string (bs cmd.name), .string (bs cmd.tag), .int .i64 cmd.n, .slice A0 cmd.chunks.length k0].toArray by simpa using hsb); clear hsb; have X := Lib.hid ((ZB.out.alloc _).grown hg (by have := HGQ.out; have := HGC.out; omega)); clear ZB; have ZB := Lib.hid X.out; clear X; have X := Lib.hid ((CB.out.alloc _).grown hg (by have := HGQ.out; omega)); clear CB; have CB := Lib.hid X.out; clear X; have X := Lib.hid ((HNN.out.alloc _).kept hg (.inr (fun e => by have e2 : some gn = some gq := e; injection e2 with e2; have := HGN.out; omega))); clear HNN; have HNN := Lib.hid X.out; clear X; have X := Lib.hid ((OC.out.below ((Below.refl _ v5).alloc (Nat.le_refl _) _)).keep (w' := v6) fun b hb => hg.block b (Nat.lt_of_lt_of_le (OC.out.in b hb).2 (by simp)) (fun e => by injection e with e; have h1 := (HF0.out b hb).2; omega)); clear OC; have OC := Lib.hid X.out; clear X; have HBZ := Lib.hid (show gq + 1 ≤ v6.heap.size from Nat.le_trans (by rw [HQE.out]; simp) hg.size); have X := Lib.hid (Below.grown (BW.out.alloc BW.out.size _) hg (Nat.le_trans BW.out.size (by simp)) (fun k hk => by injection hk with hk; have := HGQ.out; have := HGC.out; omega)); clear BW; have BW := Lib.hid X.out; clear X; clear hg)
    | ((with_reducible show wpList _ _ _ ({ dst := _, op := Op.load 33 _, type := _, pos := _, after := _, guard := _ } :: _) _ _); refine wpList_load_row _ ⟨gq, 0, none⟩ rfl [.int .i64 cmd.kind, .int .i64 cmd.client, .int .i64 cmd.no, .string (bs cmd.set), .string (bs cmd.name), .string (bs cmd.tag), .int .i64 cmd.n, .slice A0 cmd.chunks.length k0] agg_Cmd rfl (blk_cells QB.out) ?_)
    | ((with_reducible show wpList _ _ _ ({ dst := _, op := Op.store 33 _ _, type := _, pos := _, after := _, guard := _ } :: _) _ _); go_must (refine wpList_store_row _ gc 36 6 [.int .i64 cmd.kind, .int .i64 cmd.client, .int .i64 cmd.no, .string (bs cmd.set), .string (bs cmd.name), .string (bs cmd.tag), .int .i64 cmd.n, .slice A0 cmd.chunks.length k0] [.int .i64 (x0 : Int), .int .i64 (x1 : Int), .int .i64 (x2 : Int), .int .i64 (x3 : Int), .int .i64 (x4 : Int), .int .i64 (x5 : Int)] [.int .i64 0, .int .i64 0, .int .i64 0, .string (bs []), .string (bs []), .string (bs []), .int .i64 0, .slice none 0 0] [.int .i64 (x8 : Int), .slice none 0 0, .int .i64 (x6 : Int), .int .i64 ((x7 : Int) - 1), .bool sm] _ rfl rfl agg_Cmd CB.out rfl rfl rfl H1C.out ?_; intro v7 hsb hg; clear CB; have CB := Lib.hid (show Blk v7 gc 36 [.int .i64 (x0 : Int), .int .i64 (x1 : Int), .int .i64 (x2 : Int), .int .i64 (x3 : Int), .int .i64 (x4 : Int), .int .i64 (x5 : Int), .int .i64 cmd.kind, .int .i64 cmd.client, .int .i64 cmd.no, .string (bs cmd.set), .string (bs cmd.name), .string (bs cmd.tag), .int .i64 cmd.n, .slice A0 cmd.chunks.length k0, .int .i64 (x8 : Int), .slice none 0 0, .int .i64 (x6 : Int), .int .i64 ((x7 : Int) - 1), .bool sm].toArray by simpa using hsb); clear hsb; have X := Lib.hid (ZB.out.grown hg (by have := HGC.out; omega)); clear ZB; have ZB := Lib.hid X.out; clear X; have X := Lib.hid (HNN.out.kept hg (.inr (fun e => by have e2 : some gn = some gc := e; injection e2 with e2; have := HGN.out; omega))); clear HNN; have HNN := Lib.hid X.out; clear X; have X := Lib.hid (OC.out.keep fun b hb => hg.block b (OC.out.in b hb).2 (fun e => by injection e with e; have h1 := (HF0.out b hb).1; omega)); clear OC; have OC := Lib.hid X.out; clear X; have X := Lib.hid (Nat.le_trans HBZ.out hg.size); clear HBZ; have HBZ := Lib.hid X.out; clear X; have X := Lib.hid (Below.grown BW.out hg BW.out.size (fun k hk => by injection hk with hk; have := HGC.out; omega)); clear BW; have BW := Lib.hid X.out; clear X; clear hg))
    | fail)
  clear HF2 HT HN HV HK2 HGB QB HQE hn18'
  go_loopw [5, 11, 12, 13] (fun pp ii _ _ wr => ∃ (j : Nat) (acc : List IdD) (p : Int) (Aj : Option Addr) (kj : Nat), j ≤ n ∧ pp = .int .i64 p ∧ ii = .int .i64 (j : Int) ∧ acc.length = j ∧ Along s [x0, x1, x2, x3, x4, x5, x6, x7, x8] p0 t n p2 j acc p ∧ (t.length : Int) + 2 + (j : Int) ≤ p ∧ p ≤ (s.length : Int) ∧ Blk wr w.heap.size 36 [.int .i64 0, .int .i64 0, .int .i64 0, .int .i64 0, .int .i64 0, .int .i64 0, .int .i64 0, .int .i64 0, .int .i64 0, .string (bs []), .string (bs []), .string (bs []), .int .i64 0, .slice none 0 0, .int .i64 0, .slice none 0 0, .int .i64 0, .int .i64 0, .bool false].toArray ∧ Blk wr gc 36 [.int .i64 (x0 : Int), .int .i64 (x1 : Int), .int .i64 (x2 : Int), .int .i64 (x3 : Int), .int .i64 (x4 : Int), .int .i64 (x5 : Int), .int .i64 cmd.kind, .int .i64 cmd.client, .int .i64 cmd.no, .string (bs cmd.set), .string (bs cmd.name), .string (bs cmd.tag), .int .i64 cmd.n, .slice A0 cmd.chunks.length k0, .int .i64 (x8 : Int), .slice Aj j kj, .int .i64 (x6 : Int), .int .i64 ((x7 : Int) - 1), .bool sm].toArray ∧ wr.ownsRow (gq + 1) 32 2 (.slice Aj j kj) j (idCells acc) ∧ wr.ownsRow (gc + 1) 3 1 (.slice (some ⟨gn, 0, none⟩) 1 cn) 1 [natv n] ∧ Own wr (gc + 1) (.sl 9 1 cmd.chunks.length (cat strC cmd.chunks) .nil) [.slice A0 cmd.chunks.length k0] F0 ∧ Below w.heap.size w wr ∧ gq + 1 ≤ wr.heap.size) (fun _ ii _ _ _ => n - (intOf ii).toNat)
  case atStart => exact ⟨0, [], p2, none, 0, Nat.zero_le _, rfl, rfl, rfl, AL0.out, by omega, q2b, ZB.out, CB.out, ⟨by simp [idCells], .inl ⟨rfl, rfl⟩⟩, HNN.out, OC.out, BW.out, HBZ.out⟩
  case round =>
    obtain ⟨j, acc, p, Aj, kj, hj, rfl, rfl, hal, hAl, hpl, hps, hzb, hcb, hown, hnn, hoc, hbw, hbz⟩ := hrel
    clear ZB CB HNN BW OC HBZ AL0
    have ZB := Lib.hid hzb; clear hzb
    have CB := Lib.hid hcb; clear hcb
    have HO := Lib.hid hown; clear hown
    have HNN := Lib.hid hnn; clear hnn
    have OC := Lib.hid hoc; clear hoc
    have BW := Lib.hid hbw; clear hbw
    have HBZ := Lib.hid hbz; clear hbz
    have HAL := Lib.hid hal; clear hal
    have AL := Lib.hid hAl; clear hAl
    have hn0 : wr.cell? ⟨gn, 0, none⟩ = some (.int .i64 (n : Int)) := World.ownsRow.cells (g := gn) HNN.out rfl 0 _ rfl
    by_cases hlt : j < n
    · have hjn : (j : Int) < (n : Int) := by omega
      obtain ⟨d, e, hd⟩ : ∃ a b, l4V s 2 p = (a, b) := ⟨_, _, rfl⟩
      have qd := l4V_range s 2 p (by omega) (.inr (by omega))
      have kd := l4V_len s 2 p
      have ad := l4V_adv s 2 p
      rw [hd] at qd kd ad
      simp only [] at qd kd ad
      obtain ⟨qda, qdb⟩ := qd
      have HADD := Lib.hid ad; clear ad
      have HKD := Lib.hid kd; clear kd
      have F3 := HF3.out j acc p d e AL.out (by omega) hlt hd
      have HF3j := Lib.hid F3; clear F3
      have F5 := fun a b => @along_next s _ p0 n p2 t j acc p d e AL.out hlt hd a b
      have HF5 := Lib.hid F5; clear F5
      have HD := Lib.hid hd; clear hd
      go_wp2_with fail
      refine (l4Vars_any s p 2 _ (by omega) ⟨by omega, by omega⟩ (by omega)).mono ?_; rintro er v8 ⟨vd, rfl, hownd, hb⟩
      rw [HD.out] at hownd ⊢
      simp only [] at hownd ⊢
      clear hn0
      have X := Lib.hid (ZB.out.below hb); clear ZB
      have ZB := Lib.hid X.out; clear X
      have X := Lib.hid (CB.out.below hb); clear CB
      have CB := Lib.hid X.out; clear X
      have X := Lib.hid (HNN.out.keptBelow hb); clear HNN
      have HNN := Lib.hid X.out; clear X
      have X := Lib.hid (HO.out.keptBelow hb); clear HO
      have HO := Lib.hid X.out; clear X
      have X := Lib.hid (OC.out.below hb); clear OC
      have OC := Lib.hid X.out; clear X
      have hownd := ownsRow_keep (base' := gq + 1) hownd (w' := v8) (fun k hk => ⟨by have := (hownd.lt k hk).1; have := HBZ.out; omega, rfl⟩)
      have X := Lib.hid (Nat.le_trans HBZ.out hb.size); clear HBZ
      have HBZ := Lib.hid X.out; clear X
      have X := Lib.hid (show Below w.heap.size w v8 from BW.out.trans (hb.mono BW.out.size)); clear BW hb
      have BW := Lib.hid X.out; clear X
      by_cases he : e < 0
      · skip
        have hRz := HF3j.out he
        subst hRz
        go_wp2_with (first | ((with_reducible show wpList _ _ _ ({ dst := _, op := Op.store 36 _ _, type := _, pos := _, after := _, guard := _ } :: _) _ _); refine wpList_store_row _ w.heap.size 36 0 [.int .i64 0, .int .i64 0, .int .i64 0, .int .i64 0, .int .i64 0, .int .i64 0, .int .i64 0, .int .i64 0, .int .i64 0, .string (bs []), .string (bs []), .string (bs []), .int .i64 0, .slice none 0 0, .int .i64 0, .slice none 0 0, .int .i64 0, .int .i64 0, .bool false] [] [.int .i64 0, .int .i64 0, .int .i64 0, .int .i64 0, .int .i64 0, .int .i64 0, .int .i64 0, .int .i64 0, .int .i64 0, .string (bs []), .string (bs []), .string (bs []), .int .i64 0, .slice none 0 0, .int .i64 0, .slice none 0 0, .int .i64 0, .int .i64 0, .bool false] [] _ rfl rfl agg_EMsg ZB.out rfl rfl rfl (by simp [Value.oneCell']) ?_; intro v9 hzb hzg) | fail)
        exact bodyPost_cell2 rfl ⟨w.heap.size, 0, none⟩ rfl [.int .i64 0, .int .i64 0, .int .i64 0, .int .i64 0, .int .i64 0, .int .i64 0, .int .i64 0, .int .i64 0, .int .i64 0, .string (bs []), .string (bs []), .string (bs []), .int .i64 0, .slice none 0 0, .int .i64 0, .slice none 0 0, .int .i64 0, .int .i64 0, .bool false] _ rfl agg_EMsg rfl (blk_cells hzb) rfl ⟨_, rfl, zeroE_mine _ _, Below.grown BW.out hzg BW.out.size (fun k hk => by injection hk with hk; omega)⟩
      have hd2 := HKD.out.2.1 (by omega)
      obtain ⟨a, b, rfl⟩ : ∃ a b, d = [a, b] := by
        match d, hd2 with
        | [a, b], _ => exact ⟨a, b, rfl⟩
      clear hd2
      obtain ⟨gd, cd, rfl, hgd1, hgd2⟩ := own_form hownd (by simp)
      have hqa : v8.cell? ⟨gd, 0, none⟩ = some (.int .i64 (a : Int)) := World.ownsRow.cells (g := gd) hownd rfl 0 _ rfl
      have hqb : v8.cell? ⟨gd, 1, none⟩ = some (.int .i64 (b : Int)) := World.ownsRow.cells (g := gd) hownd rfl 1 _ rfl
      have hq15 : v8.cell? ⟨gc, 15, none⟩ = some (.slice Aj j kj) := blk_cell0 (L := [.int .i64 (x0 : Int), .int .i64 (x1 : Int), .int .i64 (x2 : Int), .int .i64 (x3 : Int), .int .i64 (x4 : Int), .int .i64 (x5 : Int), .int .i64 cmd.kind, .int .i64 cmd.client, .int .i64 cmd.no, .string (bs cmd.set), .string (bs cmd.name), .string (bs cmd.tag), .int .i64 cmd.n, .slice A0 cmd.chunks.length k0, .int .i64 (x8 : Int), .slice Aj j kj, .int .i64 (x6 : Int), .int .i64 ((x7 : Int) - 1), .bool sm]) CB.out 15 rfl
      have AL2 := Lib.hid (HF5.out a b rfl)
      have hae := HADD.out (by omega)
      clear hownd hgd1 hgd2 HF3j HF5 HKD HADD HD
      go_wp2
      refine wp_region_h 10 [] [0, 1, 2, 3, 4, 5, 6, 7, 8, 9] [10, 11, 12] (by kernel_rfl) (by kernel_rfl) ?_
      refine wpFl_nil ?_
      iterate 8 (refine wpH_quiet rfl rfl (by kernel_rfl) rfl ?_; go_wp2; refine ⟨rfl, ?_⟩)
      refine wpH_build rfl rfl rfl #[.int .i64 (a : Int), .int .i64 (b : Int)] (by kernel_rfl) ?_
      refine wpH_actor rfl rfl (by kernel_rfl) ?_
      go_wp2
      refine ⟨Ext.alloc (Ext.refl _) _, ?_⟩
      refine wpH_nil ?_
      simp only [pickOps, List.getElem?_toArray, List.getElem?_cons_succ, List.getElem?_cons_zero]
      clear hqa hqb hq15
      go_wp2_with (first
        | (at_builtin; go_must (refine wpList_app E_Id _ rfl _ _ rfl (gq + 1) _ j (idCells acc) rfl ((HO.out.alloc _).drew) _ _ _ _ rfl (Reads.new rfl) (by simp [Value.oneCell']) (by omega) (Nat.le_trans HBZ.out (by simp)) ?_; intro vv w4 hown3 hg3 hat3; obtain ⟨Av, kv, rfl, _⟩ := SlR.of_own hown3; have hgb3 : ∀ k, (Value.slice Aj j kj).ownBlock = some k → gq + 1 ≤ k := (fun k hk => (HO.out.lt k hk).1); have hcb3 := Blk.keep ((CB.out.alloc (.cells #[.int .i64 (a : Int), .int .i64 (b : Int)] 32)).drew) (hg3.block _ (CB.out.alloc _).lt (fun e => by have := hgb3 _ e.symm; have := HGQ.out; omega)); have hq3 : w4.cell? ⟨gc, 15, none⟩ = some (.slice Aj j kj) := blk_cell0 (L := [.int .i64 (x0 : Int), .int .i64 (x1 : Int), .int .i64 (x2 : Int), .int .i64 (x3 : Int), .int .i64 (x4 : Int), .int .i64 (x5 : Int), .int .i64 cmd.kind, .int .i64 cmd.client, .int .i64 cmd.no, .string (bs cmd.set), .string (bs cmd.name), .string (bs cmd.tag), .int .i64 cmd.n, .slice A0 cmd.chunks.length k0, .int .i64 (x8 : Int), .slice Aj j kj, .int .i64 (x6 : Int), .int .i64 ((x7 : Int) - 1), .bool sm]) hcb3 15 rfl; have hfz3 : w4.frozen? ⟨gc, 15, none⟩ = false := hcb3.frozen 15; have HCB3 := Lib.hid hcb3; have HO3 := Lib.hid hown3; have HG3 := Lib.hid hg3; have HGB3 := Lib.hid hgb3; clear hcb3 hown3 hg3 hgb3 hat3))
        | fail)
      refine ⟨trivial, ?_⟩
      go_wp2
      have hbv : ∀ k, (Value.slice Av (j + 1) kv).ownBlock = some k → gq + 1 ≤ k := fun k hk => (HO3.out.lt k hk).1
      have hzb3 := Blk.keep ((ZB.out.alloc (.cells #[.int .i64 (a : Int), .int .i64 (b : Int)] 32)).drew) (HG3.out.block _ (ZB.out.alloc _).lt (fun e => by have := HGB3.out _ e.symm; have := HGC.out; have := HGQ.out; omega))
      have hnn3 := ((HNN.out.alloc (.cells #[.int .i64 (a : Int), .int .i64 (b : Int)] 32)).drew).kept HG3.out (.inr (fun e => by have e2 : some gn = (Value.slice Aj j kj).ownBlock := e; have := HGB3.out _ e2.symm; have := HGN.out; omega))
      have hoc3 := (OC.out.below ((Below.refl _ _).alloc (Nat.le_refl _) (.cells #[.int .i64 (a : Int), .int .i64 (b : Int)] 32))).keep (w' := w4) fun b hb => HG3.out.block b (Nat.lt_of_lt_of_le (OC.out.in b hb).2 (by simp)) (fun e => by have h1 := HGB3.out _ e.symm; have h2 := (HF0.out b hb).2; omega)
      have hbw3 : Below w.heap.size w w4 := Below.grown ((BW.out.alloc BW.out.size _).drew) HG3.out (Nat.le_trans BW.out.size (by simp)) (fun k hk => by have := HGB3.out k hk; have := HGC.out; have := HGQ.out; omega)
      have hsz4 : v8.heap.size ≤ w4.heap.size := Nat.le_trans (by simp) HG3.out.size
      have hown4 : (w4.setCell ⟨gc, 15, none⟩ (.slice Av (j + 1) kv)).ownsRow (gq + 1) 32 2 (.slice Av (j + 1) kv) (j + 1) (idCells (acc ++ [⟨(a : Int), (b : Int)⟩])) := by
        rw [idCells_app]
        exact ownsRow_keep HO3.out (fun k hk => ⟨(HO3.out.lt k hk).1, Below.heap_setCell _ _ _ _ (fun e => by have := hbv k hk; have := HGQ.out; have e2 : k = gc := e; omega)⟩)
      have hnn4 : (w4.setCell ⟨gc, 15, none⟩ (.slice Av (j + 1) kv)).ownsRow (gc + 1) 3 1 (.slice (some ⟨gn, 0, none⟩) 1 cn) 1 [natv n] := ownsRow_keep hnn3 (fun k hk => ⟨(hnn3.lt k hk).1, Below.heap_setCell _ _ _ _ (fun e => by have := HGN.out; have e1 : some gn = some k := hk; injection e1 with e1; have e2 : k = gc := e; omega)⟩)
      exact ⟨⟨j + 1, acc ++ [⟨(a : Int), (b : Int)⟩], e, Av, kv, by omega, rfl, by go_num, by rw [List.length_append, HAL.out]; rfl, AL2.out, by omega, qdb, Blk.setOther hzb3 (a := ⟨gc, 15, none⟩) (by have := HGC.out; show gc ≠ _; omega) _, blk_put0 HCB3.out 15 _, hown4, hnn4, hoc3.keep fun b hb => Below.heap_setCell _ _ _ _ (fun e => by have h1 := (HF0.out b hb).1; have e2 : b = gc := e; omega), Below.setCell hbw3 (p := ⟨gc, 15, none⟩) (by have := HGC.out; show _ ≤ gc; omega) _, by rw [setCell_size]; exact Nat.le_trans HBZ.out hsz4⟩, by simp only [intOf]; omega⟩
    · have hjn : j = n := by omega
      subst hjn
      have hnl : ¬ (j : Int) < (j : Int) := by omega
      rw [← HAL.out] at HO CB
      have EE := HSM.out
      obtain ⟨cc, hcc⟩ : ∃ cc : EMsgD, cc = ⟨(x0 : Int), (x1 : Int), (x2 : Int), ⟨(x3 : Int), (x4 : Int)⟩, (x5 : Int), cmd, (x8 : Int), acc, (x6 : Int), (x7 : Int) - 1, sm⟩ := ⟨_, rfl⟩
      have hrep : Mine wr (gc + 1) cc.c [.int .i64 (x0 : Int), .int .i64 (x1 : Int), .int .i64 (x2 : Int), .int .i64 (x3 : Int), .int .i64 (x4 : Int), .int .i64 (x5 : Int), .int .i64 cmd.kind, .int .i64 cmd.client, .int .i64 cmd.no, .string (bs cmd.set), .string (bs cmd.name), .string (bs cmd.tag), .int .i64 cmd.n, .slice A0 cmd.chunks.length k0, .int .i64 (x8 : Int), .slice Aj acc.length kj, .int .i64 (x6 : Int), .int .i64 ((x7 : Int) - 1), .bool sm] := by
        obtain ⟨F1, hnd1, ho1⟩ := mine_ids HO.out rfl
        rw [hcc]
        exact ⟨F0 ++ F1, List.nodup_append.2 ⟨HND.out, hnd1, fun a ha b hb e => by have h1 := (HF0.out a ha).2; have h2 := (ho1.in b hb).1; omega⟩, EMsgD.shutO (x := ⟨(x0 : Int), (x1 : Int), (x2 : Int), ⟨(x3 : Int), (x4 : Int)⟩, (x5 : Int), cmd, (x8 : Int), acc, (x6 : Int), (x7 : Int) - 1, sm⟩) OC.out (Own.mono ho1 (by have := HGQ.out; omega))⟩
      have hwt : cc.c.wt ≤ 1048576 := by
        rw [wt_emsg, hcc]
        have := HAL.out
        show cmd.c.wt + acc.length ≤ _
        omega
      have hsn : s ≠ [] := by
        intro e
        subst e
        simp at hp0
      have hR4 := HF4.out acc p AL.out
      rw [← EE, ← hcc] at hR4
      have hR5 := @readE_yes cc s
      rw [← HRR.out] at hR5
      have HSH := Lib.hid (fun W h => sShowEMsg_any cc [.int .i64 (x0 : Int), .int .i64 (x1 : Int), .int .i64 (x2 : Int), .int .i64 (x3 : Int), .int .i64 (x4 : Int), .int .i64 (x5 : Int), .int .i64 cmd.kind, .int .i64 cmd.client, .int .i64 cmd.no, .string (bs cmd.set), .string (bs cmd.name), .string (bs cmd.tag), .int .i64 cmd.n, .slice A0 cmd.chunks.length k0, .int .i64 (x8 : Int), .slice Aj acc.length kj, .int .i64 (x6 : Int), .int .i64 ((x7 : Int) - 1), .bool sm] W hwt h)
      obtain ⟨sh, hsh⟩ : ∃ sh, sh = showEMsgL cc := ⟨_, rfl⟩
      rw [← hsh] at HSH hR4 hR5
      have HR4 := Lib.hid hR4
      have HR5 := Lib.hid hR5
      have HREP := Lib.hid hrep
      clear hR4 hR5 hsh hrep hcc hwt EE HF4 HF3 HRR
      go_wp2_with (first | ((with_reducible show wpList _ _ _ ({ dst := _, op := Op.load 36 _, type := _, pos := _, after := _, guard := _ } :: _) _ _); refine wpList_load_row _ ⟨gc, 0, none⟩ rfl [.int .i64 (x0 : Int), .int .i64 (x1 : Int), .int .i64 (x2 : Int), .int .i64 (x3 : Int), .int .i64 (x4 : Int), .int .i64 (x5 : Int), .int .i64 cmd.kind, .int .i64 cmd.client, .int .i64 cmd.no, .string (bs cmd.set), .string (bs cmd.name), .string (bs cmd.tag), .int .i64 cmd.n, .slice A0 cmd.chunks.length k0, .int .i64 (x8 : Int), .slice Aj acc.length kj, .int .i64 (x6 : Int), .int .i64 ((x7 : Int) - 1), .bool sm] agg_EMsg rfl (blk_cells CB.out) ?_) | fail)
      refine (HSH.out _ HREP.out.rep.any).mono ?_; rintro er v9 ⟨rfl, hb⟩
      have X := Lib.hid (ZB.out.below hb); clear ZB
      have ZB := Lib.hid X.out; clear X
      have X := Lib.hid (CB.out.below hb); clear CB
      have CB := Lib.hid X.out; clear X
      have X := Lib.hid (HREP.out.below hb); clear HREP
      have HREP := Lib.hid X.out; clear X
      have X := Lib.hid (show Below w.heap.size w v9 from BW.out.trans (hb.mono BW.out.size)); clear BW hb
      have BW := Lib.hid X.out; clear X
      by_cases hq : sh = s
      · have hRz := HR5.out hq hsn
        subst hRz
        have hb1 : (sh == s) = true := by simp [hq]
        clear hq hsn
        go_wp2_with (first | ((with_reducible show wpList _ _ _ ({ dst := _, op := Op.load 36 _, type := _, pos := _, after := _, guard := _ } :: _) _ _); refine wpList_load_row _ ⟨gc, 0, none⟩ rfl [.int .i64 (x0 : Int), .int .i64 (x1 : Int), .int .i64 (x2 : Int), .int .i64 (x3 : Int), .int .i64 (x4 : Int), .int .i64 (x5 : Int), .int .i64 cmd.kind, .int .i64 cmd.client, .int .i64 cmd.no, .string (bs cmd.set), .string (bs cmd.name), .string (bs cmd.tag), .int .i64 cmd.n, .slice A0 cmd.chunks.length k0, .int .i64 (x8 : Int), .slice Aj acc.length kj, .int .i64 (x6 : Int), .int .i64 ((x7 : Int) - 1), .bool sm] agg_EMsg rfl (blk_cells CB.out) ?_) | ((with_reducible show wpList _ _ _ ({ dst := _, op := Op.store 36 _ _, type := _, pos := _, after := _, guard := _ } :: _) _ _); refine wpList_store_row _ w.heap.size 36 0 [.int .i64 (x0 : Int), .int .i64 (x1 : Int), .int .i64 (x2 : Int), .int .i64 (x3 : Int), .int .i64 (x4 : Int), .int .i64 (x5 : Int), .int .i64 cmd.kind, .int .i64 cmd.client, .int .i64 cmd.no, .string (bs cmd.set), .string (bs cmd.name), .string (bs cmd.tag), .int .i64 cmd.n, .slice A0 cmd.chunks.length k0, .int .i64 (x8 : Int), .slice Aj acc.length kj, .int .i64 (x6 : Int), .int .i64 ((x7 : Int) - 1), .bool sm] [] [.int .i64 0, .int .i64 0, .int .i64 0, .int .i64 0, .int .i64 0, .int .i64 0, .int .i64 0, .int .i64 0, .int .i64 0, .string (bs []), .string (bs []), .string (bs []), .int .i64 0, .slice none 0 0, .int .i64 0, .slice none 0 0, .int .i64 0, .int .i64 0, .bool false] [] _ rfl rfl agg_EMsg ZB.out rfl rfl rfl (by simp [Value.oneCell']) ?_; intro v10 hzb hzg) | fail)
        exact bodyPost_cell2 rfl ⟨w.heap.size, 0, none⟩ rfl [.int .i64 (x0 : Int), .int .i64 (x1 : Int), .int .i64 (x2 : Int), .int .i64 (x3 : Int), .int .i64 (x4 : Int), .int .i64 (x5 : Int), .int .i64 cmd.kind, .int .i64 cmd.client, .int .i64 cmd.no, .string (bs cmd.set), .string (bs cmd.name), .string (bs cmd.tag), .int .i64 cmd.n, .slice A0 cmd.chunks.length k0, .int .i64 (x8 : Int), .slice Aj acc.length kj, .int .i64 (x6 : Int), .int .i64 ((x7 : Int) - 1), .bool sm] _ rfl agg_EMsg rfl (blk_cells hzb) rfl ⟨_, rfl, HREP.out.grownAt hzg (fun e => by have := HGC.out; omega) (by have := HGC.out; omega), Below.grown BW.out hzg BW.out.size (fun k hk => by injection hk with hk; omega)⟩
      · have hRz := HR4.out hq
        subst hRz
        have hb1 : (sh == s) = false := by simpa using hq
        clear hq hsn
        go_wp2_with (first | ((with_reducible show wpList _ _ _ ({ dst := _, op := Op.store 36 _ _, type := _, pos := _, after := _, guard := _ } :: _) _ _); refine wpList_store_row _ w.heap.size 36 0 [.int .i64 0, .int .i64 0, .int .i64 0, .int .i64 0, .int .i64 0, .int .i64 0, .int .i64 0, .int .i64 0, .int .i64 0, .string (bs []), .string (bs []), .string (bs []), .int .i64 0, .slice none 0 0, .int .i64 0, .slice none 0 0, .int .i64 0, .int .i64 0, .bool false] [] [.int .i64 0, .int .i64 0, .int .i64 0, .int .i64 0, .int .i64 0, .int .i64 0, .int .i64 0, .int .i64 0, .int .i64 0, .string (bs []), .string (bs []), .string (bs []), .int .i64 0, .slice none 0 0, .int .i64 0, .slice none 0 0, .int .i64 0, .int .i64 0, .bool false] [] _ rfl rfl agg_EMsg ZB.out rfl rfl rfl (by simp [Value.oneCell']) ?_; intro v9 hzb hzg) | fail)
        exact bodyPost_cell2 rfl ⟨w.heap.size, 0, none⟩ rfl [.int .i64 0, .int .i64 0, .int .i64 0, .int .i64 0, .int .i64 0, .int .i64 0, .int .i64 0, .int .i64 0, .int .i64 0, .string (bs []), .string (bs []), .string (bs []), .int .i64 0, .slice none 0 0, .int .i64 0, .slice none 0 0, .int .i64 0, .int .i64 0, .bool false] _ rfl agg_EMsg rfl (blk_cells hzb) rfl ⟨_, rfl, zeroE_mine _ _, Below.grown BW.out hzg BW.out.size (fun k hk => by injection hk with hk; omega)⟩

end Go.Proofs.Ytbdblfpepnoafaa
