/-
  A command read: impl.ReadCmd. Condition: a bound on the size.
-/
import Derived.Test.YtinacpjelephoaaParseC
import Derived.Test.YtinacpjelephoaaRet
import Derived.Test.YtinacpjelephoaaEq
import Derived.Test.YtinacpjelephoaaFlat
namespace Go.Proofs.Ytinacpjelephoaa
open Go.RowKit

theorem ScanCell.blk {w : World} {b : Nat} {r : List UInt8} {x : Bool} (h : ScanCell w b r x) : Blk w b 59 #[.string (bs r), .bool x] := h
theorem ScanCell.of {w : World} {b : Nat} {r : List UInt8} {x : Bool} (h : Blk w b 59 #[.string (bs r), .bool x]) : ScanCell w b r x := h
theorem Mine.grownAt {w w' : World} {base g b : Nat} {d : Cs} {cs : List Value} (h : Mine w g d cs) (hg : w.grownBy w' (some b)) (hb : ¬ g ≤ b) (hbase : base ≤ g) : Mine w' base d cs :=
  let ⟨F, h1, h2⟩ := h
  ⟨F, h1, h2.keep0 fun k hk => ⟨Nat.le_trans hbase (h2.in k hk).1, hg.block k (h2.in k hk).2 (fun e => by injection e with e; have := (h2.in k hk).1; omega)⟩⟩
theorem zeroCmd_mine (w : World) (base : Nat) : Mine w base zeroCmd.c [.int .i64 0, .int .i64 0, .int .i64 0, .string (bs []), .string (bs []), .string (bs []), .int .i64 0, .slice none 0 0] :=
  ⟨_, nodup_own _, CmdD.shutO (x := zeroCmd) (Own.strs_mk rfl ⟨by simp [zeroCmd], .inl ⟨rfl, rfl⟩⟩)⟩
theorem cmd_mine {w : World} {base : Nat} {c : CmdD} {A : Option Addr} {k : Nat} (h : w.ownsRow base 9 1 (.slice A c.chunks.length k) c.chunks.length (c.chunks.map strv)) : Mine w base c.c [.int .i64 c.kind, .int .i64 c.client, .int .i64 c.no, .string (bs c.set), .string (bs c.name), .string (bs c.tag), .int .i64 c.n, .slice A c.chunks.length k] :=
  ⟨_, nodup_own _, CmdD.shutO (Own.strs_mk rfl h)⟩
theorem parseC_eq {s : List UInt8} {n1 n2 n3 n4 n8 : Nat} {t5 t6 t7 r1 r2 r3 r4 r5 r6 r7 r8 r9 : List UInt8} {b1 b2 b3 b4 b5 b6 b7 b8 b9 : Bool} {N : Nat} {acc : List (List UInt8)}
    (h1 : scanNum s false = (n1, r1, b1)) (h2 : scanNum r1 b1 = (n2, r2, b2)) (h3 : scanNum r2 b2 = (n3, r3, b3)) (h4 : scanNum r3 b3 = (n4, r4, b4))
    (h5 : scanText r4 b4 = (t5, r5, b5)) (h6 : scanText r5 b5 = (t6, r6, b6)) (h7 : scanText r6 b6 = (t7, r7, b7)) (h8 : scanNum r7 b7 = (n8, r8, b8))
    (hN : N = if n8 ≤ 4 then n8 else 0) (h9 : cutsL N r8 b8 = (acc, r9, b9)) : parseC s = (⟨(n1 : Int), (n2 : Int), (n3 : Int), t5, t6, t7, (n4 : Int), acc⟩, b9) := by
  unfold parseC
  simp only [h1, h2, h3, h4, h5, h6, h7, h8]
  split
  · rename_i h
    rw [if_pos h] at hN
    subst hN
    rw [h9]
  · rename_i h
    rw [if_neg h] at hN
    subst hN
    rw [cutsL] at h9
    injection h9 with e1 e2
    injection e2 with e2 e3
    subst e1 e3
    rfl
theorem bad_nil {s : List UInt8} {n1 n2 n3 n4 n8 : Nat} {t5 t6 t7 r1 r2 r3 r4 r5 r6 r7 r8 : List UInt8} {b1 b2 b3 b4 b5 b6 b7 b8 : Bool} {N : Nat} {acc : List (List UInt8)} {r9 : List UInt8} {b9 : Bool} (h1 : scanNum s false = (n1, r1, b1)) (h2 : scanNum r1 b1 = (n2, r2, b2)) (h3 : scanNum r2 b2 = (n3, r3, b3)) (h4 : scanNum r3 b3 = (n4, r4, b4))
    (h5 : scanText r4 b4 = (t5, r5, b5)) (h6 : scanText r5 b5 = (t6, r6, b6)) (h7 : scanText r6 b6 = (t7, r7, b7)) (h8 : scanNum r7 b7 = (n8, r8, b8)) (h9 : cutsL N r8 b8 = (acc, r9, b9)) (hb : b9 = false) : s ≠ [] := by
  have mono : ∀ (n : Nat) (r : List UInt8) (b : Bool), (cutsL n r b).2.2 = false → b = false := fun n => by
    induction n with
    | zero => intro r b h; exact h
    | succ n ih => intro r b h; exact (scanCut_eat r b 8).2 (ih _ _ h)
  have g8 := mono N r8 b8 (by rw [h9]; exact hb)
  have g7 := ((scanNum_eat r7 b7).2.1 (by rw [h8]; exact g8)).1
  have g6 := ((scanText_eat r6 b6).2 (by rw [h7]; exact g7)).1
  have g5 := ((scanText_eat r5 b5).2 (by rw [h6]; exact g6)).1
  have g4 := ((scanText_eat r4 b4).2 (by rw [h5]; exact g5)).1
  have g3 := ((scanNum_eat r3 b3).2.1 (by rw [h4]; exact g4)).1
  have g2 := ((scanNum_eat r2 b2).2.1 (by rw [h3]; exact g3)).1
  have g1 := ((scanNum_eat r1 b1).2.1 (by rw [h2]; exact g2)).1
  have g0 := ((scanNum_eat s false).2.1 (by rw [h1]; exact g1)).2
  intro e
  subst e
  simp at g0

set_option maxRecDepth 100000 in
set_option maxHeartbeats 8000000 in
theorem iReadCmd_any (s : List UInt8) (w : World) (hs : s.length ≤ 1048576) :
    Calls Try.prog 19 #[.string (bs s)] w fun e w' => ∃ cs', e = .returned (.tuple #[.agg cs'.toArray, .bool (fReadCmd s).2]) ∧ Mine w' w.heap.size (fReadCmd s).1.c cs' ∧ Below w.heap.size w w' := by
  obtain ⟨R, hR⟩ : ∃ R, R = fReadCmd s := ⟨_, rfl⟩
  rw [← hR]
  have HR := Lib.hid hR; clear hR
  obtain ⟨n1, r1, b1, h1⟩ : ∃ a b c, scanNum s false = (a, b, c) := ⟨_, _, _, rfl⟩
  have l1 := (scanNum_len s false).1
  have m1 := (scanNum_len s false).2
  rw [h1] at l1 m1
  simp only [] at l1 m1
  have l1' : r1.length ≤ 1048576 := by omega
  clear l1
  obtain ⟨n2, r2, b2, h2⟩ : ∃ a b c, scanNum r1 b1 = (a, b, c) := ⟨_, _, _, rfl⟩
  have l2 := (scanNum_len r1 b1).1
  have m2 := (scanNum_len r1 b1).2
  rw [h2] at l2 m2
  simp only [] at l2 m2
  have l2' : r2.length ≤ 1048576 := by omega
  clear l2
  obtain ⟨n3, r3, b3, h3⟩ : ∃ a b c, scanNum r2 b2 = (a, b, c) := ⟨_, _, _, rfl⟩
  have l3 := (scanNum_len r2 b2).1
  have m3 := (scanNum_len r2 b2).2
  rw [h3] at l3 m3
  simp only [] at l3 m3
  have l3' : r3.length ≤ 1048576 := by omega
  clear l3
  obtain ⟨n4, r4, b4, h4⟩ : ∃ a b c, scanNum r3 b3 = (a, b, c) := ⟨_, _, _, rfl⟩
  have l4 := (scanNum_len r3 b3).1
  have m4 := (scanNum_len r3 b3).2
  rw [h4] at l4 m4
  simp only [] at l4 m4
  have l4' : r4.length ≤ 1048576 := by omega
  clear l4
  obtain ⟨t5, r5, b5, h5⟩ : ∃ a b c, scanText r4 b4 = (a, b, c) := ⟨_, _, _, rfl⟩
  have l5 := (scanText_len r4 b4).1
  have m5 := (scanText_len r4 b4).2
  rw [h5] at l5 m5
  simp only [] at l5 m5
  have l5' : r5.length ≤ 1048576 := by omega
  clear l5
  have m5' : t5.length ≤ 1048576 := by omega
  clear m5
  obtain ⟨t6, r6, b6, h6⟩ : ∃ a b c, scanText r5 b5 = (a, b, c) := ⟨_, _, _, rfl⟩
  have l6 := (scanText_len r5 b5).1
  have m6 := (scanText_len r5 b5).2
  rw [h6] at l6 m6
  simp only [] at l6 m6
  have l6' : r6.length ≤ 1048576 := by omega
  clear l6
  have m6' : t6.length ≤ 1048576 := by omega
  clear m6
  obtain ⟨t7, r7, b7, h7⟩ : ∃ a b c, scanText r6 b6 = (a, b, c) := ⟨_, _, _, rfl⟩
  have l7 := (scanText_len r6 b6).1
  have m7 := (scanText_len r6 b6).2
  rw [h7] at l7 m7
  simp only [] at l7 m7
  have l7' : r7.length ≤ 1048576 := by omega
  clear l7
  have m7' : t7.length ≤ 1048576 := by omega
  clear m7
  obtain ⟨n8, r8, b8, h8⟩ : ∃ a b c, scanNum r7 b7 = (a, b, c) := ⟨_, _, _, rfl⟩
  have l8 := (scanNum_len r7 b7).1
  have m8 := (scanNum_len r7 b7).2
  rw [h8] at l8 m8
  simp only [] at l8 m8
  have l8' : r8.length ≤ 1048576 := by omega
  clear l8
  obtain ⟨N, hN⟩ : ∃ N, N = if n8 ≤ 4 then n8 else 0 := ⟨_, rfl⟩
  obtain ⟨acc9, r9, b9, h9⟩ : ∃ a b c, cutsL N r8 b8 = (a, b, c) := ⟨_, _, _, rfl⟩
  have hpc := parseC_eq h1 h2 h3 h4 h5 h6 h7 h8 hN h9
  have HBN := Lib.hid (fun hb => bad_nil h1 h2 h3 h4 h5 h6 h7 h8 h9 hb)
  have hwt := parseC_wt s
  rw [hpc] at hwt
  simp only [] at hwt
  have HWT := Lib.hid (Nat.le_trans hwt hs); clear hwt
  have HPC := Lib.hid hpc; clear hpc
  have hN4 : N ≤ 4 ∧ N ≤ n8 ∧ (n8 ≤ 4 → N = n8) ∧ (¬ n8 ≤ 4 → N = 0) := by rw [hN]; split <;> omega
  clear hN
  obtain ⟨hN1, hN2, hN3, hN4⟩ := hN4
  have H1 := Lib.hid h1; clear h1
  have H2 := Lib.hid h2; clear h2
  have H3 := Lib.hid h3; clear h3
  have H4 := Lib.hid h4; clear h4
  have H5 := Lib.hid h5; clear h5
  have H6 := Lib.hid h6; clear h6
  have H7 := Lib.hid h7; clear h7
  have H8 := Lib.hid h8; clear h8
  have H9 := Lib.hid h9; clear h9
  clear m1 m2 m3 m4
  go_enter Try.func19, Try.ntmps19
  go_wp2_with fail
  have HS := Lib.hid (show ScanCell ((w.alloc (.cells #[.int .i64 0, .int .i64 0, .int .i64 0, .string (bs []), .string (bs []), .string (bs []), .int .i64 0, .slice none 0 0] 38)).alloc (.cells #[.string (bs s), .bool false] 59)) (w.heap.size + 1) s false from blk2_1 _ _ _ _)
  have ZB := Lib.hid (show Blk ((w.alloc (.cells #[.int .i64 0, .int .i64 0, .int .i64 0, .string (bs []), .string (bs []), .string (bs []), .int .i64 0, .slice none 0 0] 38)).alloc (.cells #[.string (bs s), .bool false] 59)) w.heap.size 38 [.int .i64 0, .int .i64 0, .int .i64 0, .string (bs []), .string (bs []), .string (bs []), .int .i64 0, .slice none 0 0].toArray from blk2_0 _ _ _ _)
  have BW := Lib.hid (show Below w.heap.size w ((w.alloc (.cells #[.int .i64 0, .int .i64 0, .int .i64 0, .string (bs []), .string (bs []), .string (bs []), .int .i64 0, .slice none 0 0] 38)).alloc (.cells #[.string (bs s), .bool false] 59)) from (by repeat' (first | with_reducible exact Below.refl _ _ | with_reducible exact BW.out | with_reducible refine Below.setCell ?_ ?_ _ | with_reducible refine Below.alloc ?_ ?_ _ | with_reducible refine Below.drew ?_ | (simp; done) | (simp; omega) | omega)))
  have hz0 : w.heap.size + 1 + 1 ≤ (World.heap ((w.alloc (.cells #[.int .i64 0, .int .i64 0, .int .i64 0, .string (bs []), .string (bs []), .string (bs []), .int .i64 0, .slice none 0 0] 38)).alloc (.cells #[.string (bs s), .bool false] 59))).size := by simp
  have HZ := Lib.hid hz0; clear hz0
  refine (scanNum_any (w.heap.size + 1) s false _ (by omega) HS.out).mono ?_; rintro e v1 ⟨rfl, hs, hg⟩
  rw [H1.out] at hs ⊢
  simp only [] at hs ⊢
  clear HS
  have HS := Lib.hid hs; clear hs
  have X := Lib.hid (ZB.out.grown hg (by omega)); clear ZB
  have ZB := Lib.hid X.out; clear X
  have X := Lib.hid (Nat.le_trans HZ.out hg.size); clear HZ
  have HZ := Lib.hid X.out; clear X
  have X := Lib.hid (Below.grown BW.out hg BW.out.size (fun k hk => by injection hk with hk; omega)); clear BW hg
  have BW := Lib.hid X.out; clear X
  obtain ⟨gc, hgc⟩ : ∃ g, g = v1.heap.size := ⟨_, rfl⟩
  have HGE := Lib.hid hgc; clear hgc
  have HGC := Lib.hid (show w.heap.size + 1 + 1 ≤ gc by rw [HGE.out]; exact HZ.out)
  go_wp2_with (first | ((with_reducible show wpList _ _ _ ({ dst := _, op := Op.store 38 _ _, type := _, pos := _, after := _, guard := _ } :: _) _ _); refine wpList_store_row _ v1.heap.size 38 0 [.int .i64 (n1 : Int), .int .i64 0, .int .i64 0, .string (bs []), .string (bs []), .string (bs []), .int .i64 0, .slice none 0 0] [] [.int .i64 0, .int .i64 0, .int .i64 0, .string (bs []), .string (bs []), .string (bs []), .int .i64 0, .slice none 0 0] [] _ rfl rfl agg_Cmd (blk_new v1 _ _) rfl rfl rfl (by simp [Value.oneCell']) ?_; intro v1' hsb hsg; rw [← HGE.out] at hsb hsg ⊢; have CB := Lib.hid (show Blk v1' gc 38 [.int .i64 (n1 : Int), .int .i64 0, .int .i64 0, .string (bs []), .string (bs []), .string (bs []), .int .i64 0, .slice none 0 0].toArray by simpa using hsb); have X := Lib.hid (show ScanCell v1' (w.heap.size + 1) r1 b1 from ScanCell.of ((HS.out.blk.alloc _).grown hsg (fun e => by have := HGC.out; omega))); clear HS; have HS := Lib.hid X.out; clear X; have X := Lib.hid ((ZB.out.alloc _).grown hsg (fun e => by have := HGC.out; omega)); clear ZB; have ZB := Lib.hid X.out; clear X; have X := Lib.hid (Below.grown (BW.out.alloc BW.out.size _) hsg (Nat.le_trans BW.out.size (by simp)) (fun k hk => by injection hk with hk; have := HGC.out; omega)); clear BW; have BW := Lib.hid X.out; clear X; have X := Lib.hid (Nat.le_trans HZ.out (Nat.le_trans (by simp) hsg.size)); clear HZ; have HZ := Lib.hid X.out; clear X; have HGB := Lib.hid (show gc + 1 ≤ v1'.heap.size from Nat.le_trans (by rw [HGE.out]; simp) hsg.size); clear hsb hsg) | fail)
  refine (scanNum_any (w.heap.size + 1) r1 b1 _ (by omega) HS.out).mono ?_; rintro e v2 ⟨rfl, hs, hg⟩
  rw [H2.out] at hs ⊢
  simp only [] at hs ⊢
  clear HS
  have HS := Lib.hid hs; clear hs
  have X := Lib.hid (ZB.out.grown hg (by omega)); clear ZB
  have ZB := Lib.hid X.out; clear X
  have X := Lib.hid (CB.out.grown hg (fun e => by have := HGC.out; omega)); clear CB
  have CB := Lib.hid X.out; clear X
  have X := Lib.hid (Nat.le_trans HZ.out hg.size); clear HZ
  have HZ := Lib.hid X.out; clear X
  have X := Lib.hid (Nat.le_trans HGB.out hg.size); clear HGB
  have HGB := Lib.hid X.out; clear X
  have X := Lib.hid (Below.grown BW.out hg BW.out.size (fun k hk => by injection hk with hk; omega)); clear BW hg
  have BW := Lib.hid X.out; clear X
  have hq : v2.cell? ⟨gc, 1, none⟩ = some (.int .i64 0) := blk_cell0 (L := [.int .i64 (n1 : Int), .int .i64 0, .int .i64 0, .string (bs []), .string (bs []), .string (bs []), .int .i64 0, .slice none 0 0]) CB.out 1 rfl
  have hfz : v2.frozen? ⟨gc, 1, none⟩ = false := CB.out.frozen 1
  go_wp2_with fail
  clear hq hfz
  have X := Lib.hid (show Blk (v2.setCell ⟨gc, 1, none⟩ (.int .i64 (n2 : Int))) gc 38 [.int .i64 (n1 : Int), .int .i64 (n2 : Int), .int .i64 0, .string (bs []), .string (bs []), .string (bs []), .int .i64 0, .slice none 0 0].toArray from blk_put0 CB.out 1 (.int .i64 (n2 : Int))); clear CB
  have CB := Lib.hid X.out; clear X
  have X := Lib.hid (ScanCell.of (Blk.setOther HS.out.blk (a := ⟨gc, 1, none⟩) (by have := HGC.out; show gc ≠ _; omega) (.int .i64 (n2 : Int)))); clear HS
  have HS := Lib.hid X.out; clear X
  have X := Lib.hid (Blk.setOther ZB.out (a := ⟨gc, 1, none⟩) (by have := HGC.out; show gc ≠ _; omega) (.int .i64 (n2 : Int))); clear ZB
  have ZB := Lib.hid X.out; clear X
  have X := Lib.hid (Below.setCell BW.out (p := ⟨gc, 1, none⟩) (by have := HGC.out; show _ ≤ gc; omega) (.int .i64 (n2 : Int))); clear BW
  have BW := Lib.hid X.out; clear X
  have X := Lib.hid (show w.heap.size + 1 + 1 ≤ (World.heap (v2.setCell ⟨gc, 1, none⟩ (.int .i64 (n2 : Int)))).size by rw [setCell_size]; exact HZ.out); clear HZ
  have HZ := Lib.hid X.out; clear X
  have X := Lib.hid (show gc + 1 ≤ (World.heap (v2.setCell ⟨gc, 1, none⟩ (.int .i64 (n2 : Int)))).size by rw [setCell_size]; exact HGB.out); clear HGB
  have HGB := Lib.hid X.out; clear X
  refine (scanNum_any (w.heap.size + 1) r2 b2 _ (by omega) HS.out).mono ?_; rintro e v3 ⟨rfl, hs, hg⟩
  rw [H3.out] at hs ⊢
  simp only [] at hs ⊢
  clear HS
  have HS := Lib.hid hs; clear hs
  have X := Lib.hid (ZB.out.grown hg (by omega)); clear ZB
  have ZB := Lib.hid X.out; clear X
  have X := Lib.hid (CB.out.grown hg (fun e => by have := HGC.out; omega)); clear CB
  have CB := Lib.hid X.out; clear X
  have X := Lib.hid (Nat.le_trans HZ.out hg.size); clear HZ
  have HZ := Lib.hid X.out; clear X
  have X := Lib.hid (Nat.le_trans HGB.out hg.size); clear HGB
  have HGB := Lib.hid X.out; clear X
  have X := Lib.hid (Below.grown BW.out hg BW.out.size (fun k hk => by injection hk with hk; omega)); clear BW hg
  have BW := Lib.hid X.out; clear X
  have hq : v3.cell? ⟨gc, 2, none⟩ = some (.int .i64 0) := blk_cell0 (L := [.int .i64 (n1 : Int), .int .i64 (n2 : Int), .int .i64 0, .string (bs []), .string (bs []), .string (bs []), .int .i64 0, .slice none 0 0]) CB.out 2 rfl
  have hfz : v3.frozen? ⟨gc, 2, none⟩ = false := CB.out.frozen 2
  go_wp2_with fail
  clear hq hfz
  have X := Lib.hid (show Blk (v3.setCell ⟨gc, 2, none⟩ (.int .i64 (n3 : Int))) gc 38 [.int .i64 (n1 : Int), .int .i64 (n2 : Int), .int .i64 (n3 : Int), .string (bs []), .string (bs []), .string (bs []), .int .i64 0, .slice none 0 0].toArray from blk_put0 CB.out 2 (.int .i64 (n3 : Int))); clear CB
  have CB := Lib.hid X.out; clear X
  have X := Lib.hid (ScanCell.of (Blk.setOther HS.out.blk (a := ⟨gc, 2, none⟩) (by have := HGC.out; show gc ≠ _; omega) (.int .i64 (n3 : Int)))); clear HS
  have HS := Lib.hid X.out; clear X
  have X := Lib.hid (Blk.setOther ZB.out (a := ⟨gc, 2, none⟩) (by have := HGC.out; show gc ≠ _; omega) (.int .i64 (n3 : Int))); clear ZB
  have ZB := Lib.hid X.out; clear X
  have X := Lib.hid (Below.setCell BW.out (p := ⟨gc, 2, none⟩) (by have := HGC.out; show _ ≤ gc; omega) (.int .i64 (n3 : Int))); clear BW
  have BW := Lib.hid X.out; clear X
  have X := Lib.hid (show w.heap.size + 1 + 1 ≤ (World.heap (v3.setCell ⟨gc, 2, none⟩ (.int .i64 (n3 : Int)))).size by rw [setCell_size]; exact HZ.out); clear HZ
  have HZ := Lib.hid X.out; clear X
  have X := Lib.hid (show gc + 1 ≤ (World.heap (v3.setCell ⟨gc, 2, none⟩ (.int .i64 (n3 : Int)))).size by rw [setCell_size]; exact HGB.out); clear HGB
  have HGB := Lib.hid X.out; clear X
  refine (scanNum_any (w.heap.size + 1) r3 b3 _ (by omega) HS.out).mono ?_; rintro e v4 ⟨rfl, hs, hg⟩
  rw [H4.out] at hs ⊢
  simp only [] at hs ⊢
  clear HS
  have HS := Lib.hid hs; clear hs
  have X := Lib.hid (ZB.out.grown hg (by omega)); clear ZB
  have ZB := Lib.hid X.out; clear X
  have X := Lib.hid (CB.out.grown hg (fun e => by have := HGC.out; omega)); clear CB
  have CB := Lib.hid X.out; clear X
  have X := Lib.hid (Nat.le_trans HZ.out hg.size); clear HZ
  have HZ := Lib.hid X.out; clear X
  have X := Lib.hid (Nat.le_trans HGB.out hg.size); clear HGB
  have HGB := Lib.hid X.out; clear X
  have X := Lib.hid (Below.grown BW.out hg BW.out.size (fun k hk => by injection hk with hk; omega)); clear BW hg
  have BW := Lib.hid X.out; clear X
  have hq : v4.cell? ⟨gc, 6, none⟩ = some (.int .i64 0) := blk_cell0 (L := [.int .i64 (n1 : Int), .int .i64 (n2 : Int), .int .i64 (n3 : Int), .string (bs []), .string (bs []), .string (bs []), .int .i64 0, .slice none 0 0]) CB.out 6 rfl
  have hfz : v4.frozen? ⟨gc, 6, none⟩ = false := CB.out.frozen 6
  go_wp2_with fail
  clear hq hfz
  have X := Lib.hid (show Blk (v4.setCell ⟨gc, 6, none⟩ (.int .i64 (n4 : Int))) gc 38 [.int .i64 (n1 : Int), .int .i64 (n2 : Int), .int .i64 (n3 : Int), .string (bs []), .string (bs []), .string (bs []), .int .i64 (n4 : Int), .slice none 0 0].toArray from blk_put0 CB.out 6 (.int .i64 (n4 : Int))); clear CB
  have CB := Lib.hid X.out; clear X
  have X := Lib.hid (ScanCell.of (Blk.setOther HS.out.blk (a := ⟨gc, 6, none⟩) (by have := HGC.out; show gc ≠ _; omega) (.int .i64 (n4 : Int)))); clear HS
  have HS := Lib.hid X.out; clear X
  have X := Lib.hid (Blk.setOther ZB.out (a := ⟨gc, 6, none⟩) (by have := HGC.out; show gc ≠ _; omega) (.int .i64 (n4 : Int))); clear ZB
  have ZB := Lib.hid X.out; clear X
  have X := Lib.hid (Below.setCell BW.out (p := ⟨gc, 6, none⟩) (by have := HGC.out; show _ ≤ gc; omega) (.int .i64 (n4 : Int))); clear BW
  have BW := Lib.hid X.out; clear X
  have X := Lib.hid (show w.heap.size + 1 + 1 ≤ (World.heap (v4.setCell ⟨gc, 6, none⟩ (.int .i64 (n4 : Int)))).size by rw [setCell_size]; exact HZ.out); clear HZ
  have HZ := Lib.hid X.out; clear X
  have X := Lib.hid (show gc + 1 ≤ (World.heap (v4.setCell ⟨gc, 6, none⟩ (.int .i64 (n4 : Int)))).size by rw [setCell_size]; exact HGB.out); clear HGB
  have HGB := Lib.hid X.out; clear X
  refine (scanText_any (w.heap.size + 1) r4 b4 _ (by omega) HS.out).mono ?_; rintro e v5 ⟨rfl, hs, hg⟩
  rw [H5.out] at hs ⊢
  simp only [] at hs ⊢
  clear HS
  have HS := Lib.hid hs; clear hs
  have X := Lib.hid (ZB.out.grown hg (by omega)); clear ZB
  have ZB := Lib.hid X.out; clear X
  have X := Lib.hid (CB.out.grown hg (fun e => by have := HGC.out; omega)); clear CB
  have CB := Lib.hid X.out; clear X
  have X := Lib.hid (Nat.le_trans HZ.out hg.size); clear HZ
  have HZ := Lib.hid X.out; clear X
  have X := Lib.hid (Nat.le_trans HGB.out hg.size); clear HGB
  have HGB := Lib.hid X.out; clear X
  have X := Lib.hid (Below.grown BW.out hg BW.out.size (fun k hk => by injection hk with hk; omega)); clear BW hg
  have BW := Lib.hid X.out; clear X
  have hq : v5.cell? ⟨gc, 3, none⟩ = some (.string (bs [])) := blk_cell0 (L := [.int .i64 (n1 : Int), .int .i64 (n2 : Int), .int .i64 (n3 : Int), .string (bs []), .string (bs []), .string (bs []), .int .i64 (n4 : Int), .slice none 0 0]) CB.out 3 rfl
  have hfz : v5.frozen? ⟨gc, 3, none⟩ = false := CB.out.frozen 3
  go_wp2_with fail
  clear hq hfz
  have X := Lib.hid (show Blk (v5.setCell ⟨gc, 3, none⟩ (.string (bs t5))) gc 38 [.int .i64 (n1 : Int), .int .i64 (n2 : Int), .int .i64 (n3 : Int), .string (bs t5), .string (bs []), .string (bs []), .int .i64 (n4 : Int), .slice none 0 0].toArray from blk_put0 CB.out 3 (.string (bs t5))); clear CB
  have CB := Lib.hid X.out; clear X
  have X := Lib.hid (ScanCell.of (Blk.setOther HS.out.blk (a := ⟨gc, 3, none⟩) (by have := HGC.out; show gc ≠ _; omega) (.string (bs t5)))); clear HS
  have HS := Lib.hid X.out; clear X
  have X := Lib.hid (Blk.setOther ZB.out (a := ⟨gc, 3, none⟩) (by have := HGC.out; show gc ≠ _; omega) (.string (bs t5))); clear ZB
  have ZB := Lib.hid X.out; clear X
  have X := Lib.hid (Below.setCell BW.out (p := ⟨gc, 3, none⟩) (by have := HGC.out; show _ ≤ gc; omega) (.string (bs t5))); clear BW
  have BW := Lib.hid X.out; clear X
  have X := Lib.hid (show w.heap.size + 1 + 1 ≤ (World.heap (v5.setCell ⟨gc, 3, none⟩ (.string (bs t5)))).size by rw [setCell_size]; exact HZ.out); clear HZ
  have HZ := Lib.hid X.out; clear X
  have X := Lib.hid (show gc + 1 ≤ (World.heap (v5.setCell ⟨gc, 3, none⟩ (.string (bs t5)))).size by rw [setCell_size]; exact HGB.out); clear HGB
  have HGB := Lib.hid X.out; clear X
  refine (scanText_any (w.heap.size + 1) r5 b5 _ (by omega) HS.out).mono ?_; rintro e v6 ⟨rfl, hs, hg⟩
  rw [H6.out] at hs ⊢
  simp only [] at hs ⊢
  clear HS
  have HS := Lib.hid hs; clear hs
  have X := Lib.hid (ZB.out.grown hg (by omega)); clear ZB
  have ZB := Lib.hid X.out; clear X
  have X := Lib.hid (CB.out.grown hg (fun e => by have := HGC.out; omega)); clear CB
  have CB := Lib.hid X.out; clear X
  have X := Lib.hid (Nat.le_trans HZ.out hg.size); clear HZ
  have HZ := Lib.hid X.out; clear X
  have X := Lib.hid (Nat.le_trans HGB.out hg.size); clear HGB
  have HGB := Lib.hid X.out; clear X
  have X := Lib.hid (Below.grown BW.out hg BW.out.size (fun k hk => by injection hk with hk; omega)); clear BW hg
  have BW := Lib.hid X.out; clear X
  have hq : v6.cell? ⟨gc, 4, none⟩ = some (.string (bs [])) := blk_cell0 (L := [.int .i64 (n1 : Int), .int .i64 (n2 : Int), .int .i64 (n3 : Int), .string (bs t5), .string (bs []), .string (bs []), .int .i64 (n4 : Int), .slice none 0 0]) CB.out 4 rfl
  have hfz : v6.frozen? ⟨gc, 4, none⟩ = false := CB.out.frozen 4
  go_wp2_with fail
  clear hq hfz
  have X := Lib.hid (show Blk (v6.setCell ⟨gc, 4, none⟩ (.string (bs t6))) gc 38 [.int .i64 (n1 : Int), .int .i64 (n2 : Int), .int .i64 (n3 : Int), .string (bs t5), .string (bs t6), .string (bs []), .int .i64 (n4 : Int), .slice none 0 0].toArray from blk_put0 CB.out 4 (.string (bs t6))); clear CB
  have CB := Lib.hid X.out; clear X
  have X := Lib.hid (ScanCell.of (Blk.setOther HS.out.blk (a := ⟨gc, 4, none⟩) (by have := HGC.out; show gc ≠ _; omega) (.string (bs t6)))); clear HS
  have HS := Lib.hid X.out; clear X
  have X := Lib.hid (Blk.setOther ZB.out (a := ⟨gc, 4, none⟩) (by have := HGC.out; show gc ≠ _; omega) (.string (bs t6))); clear ZB
  have ZB := Lib.hid X.out; clear X
  have X := Lib.hid (Below.setCell BW.out (p := ⟨gc, 4, none⟩) (by have := HGC.out; show _ ≤ gc; omega) (.string (bs t6))); clear BW
  have BW := Lib.hid X.out; clear X
  have X := Lib.hid (show w.heap.size + 1 + 1 ≤ (World.heap (v6.setCell ⟨gc, 4, none⟩ (.string (bs t6)))).size by rw [setCell_size]; exact HZ.out); clear HZ
  have HZ := Lib.hid X.out; clear X
  have X := Lib.hid (show gc + 1 ≤ (World.heap (v6.setCell ⟨gc, 4, none⟩ (.string (bs t6)))).size by rw [setCell_size]; exact HGB.out); clear HGB
  have HGB := Lib.hid X.out; clear X
  refine (scanText_any (w.heap.size + 1) r6 b6 _ (by omega) HS.out).mono ?_; rintro e v7 ⟨rfl, hs, hg⟩
  rw [H7.out] at hs ⊢
  simp only [] at hs ⊢
  clear HS
  have HS := Lib.hid hs; clear hs
  have X := Lib.hid (ZB.out.grown hg (by omega)); clear ZB
  have ZB := Lib.hid X.out; clear X
  have X := Lib.hid (CB.out.grown hg (fun e => by have := HGC.out; omega)); clear CB
  have CB := Lib.hid X.out; clear X
  have X := Lib.hid (Nat.le_trans HZ.out hg.size); clear HZ
  have HZ := Lib.hid X.out; clear X
  have X := Lib.hid (Nat.le_trans HGB.out hg.size); clear HGB
  have HGB := Lib.hid X.out; clear X
  have X := Lib.hid (Below.grown BW.out hg BW.out.size (fun k hk => by injection hk with hk; omega)); clear BW hg
  have BW := Lib.hid X.out; clear X
  have hq : v7.cell? ⟨gc, 5, none⟩ = some (.string (bs [])) := blk_cell0 (L := [.int .i64 (n1 : Int), .int .i64 (n2 : Int), .int .i64 (n3 : Int), .string (bs t5), .string (bs t6), .string (bs []), .int .i64 (n4 : Int), .slice none 0 0]) CB.out 5 rfl
  have hfz : v7.frozen? ⟨gc, 5, none⟩ = false := CB.out.frozen 5
  go_wp2_with fail
  clear hq hfz
  have X := Lib.hid (show Blk (v7.setCell ⟨gc, 5, none⟩ (.string (bs t7))) gc 38 [.int .i64 (n1 : Int), .int .i64 (n2 : Int), .int .i64 (n3 : Int), .string (bs t5), .string (bs t6), .string (bs t7), .int .i64 (n4 : Int), .slice none 0 0].toArray from blk_put0 CB.out 5 (.string (bs t7))); clear CB
  have CB := Lib.hid X.out; clear X
  have X := Lib.hid (ScanCell.of (Blk.setOther HS.out.blk (a := ⟨gc, 5, none⟩) (by have := HGC.out; show gc ≠ _; omega) (.string (bs t7)))); clear HS
  have HS := Lib.hid X.out; clear X
  have X := Lib.hid (Blk.setOther ZB.out (a := ⟨gc, 5, none⟩) (by have := HGC.out; show gc ≠ _; omega) (.string (bs t7))); clear ZB
  have ZB := Lib.hid X.out; clear X
  have X := Lib.hid (Below.setCell BW.out (p := ⟨gc, 5, none⟩) (by have := HGC.out; show _ ≤ gc; omega) (.string (bs t7))); clear BW
  have BW := Lib.hid X.out; clear X
  have X := Lib.hid (show w.heap.size + 1 + 1 ≤ (World.heap (v7.setCell ⟨gc, 5, none⟩ (.string (bs t7)))).size by rw [setCell_size]; exact HZ.out); clear HZ
  have HZ := Lib.hid X.out; clear X
  have X := Lib.hid (show gc + 1 ≤ (World.heap (v7.setCell ⟨gc, 5, none⟩ (.string (bs t7)))).size by rw [setCell_size]; exact HGB.out); clear HGB
  have HGB := Lib.hid X.out; clear X
  refine (scanNum_any (w.heap.size + 1) r7 b7 _ (by omega) HS.out).mono ?_; rintro e v8 ⟨rfl, hs, hg⟩
  rw [H8.out] at hs ⊢
  simp only [] at hs ⊢
  clear HS
  have HS := Lib.hid hs; clear hs
  have X := Lib.hid (ZB.out.grown hg (by omega)); clear ZB
  have ZB := Lib.hid X.out; clear X
  have X := Lib.hid (CB.out.grown hg (fun e => by have := HGC.out; omega)); clear CB
  have CB := Lib.hid X.out; clear X
  have X := Lib.hid (Nat.le_trans HZ.out hg.size); clear HZ
  have HZ := Lib.hid X.out; clear X
  have X := Lib.hid (Nat.le_trans HGB.out hg.size); clear HGB
  have HGB := Lib.hid X.out; clear X
  have X := Lib.hid (Below.grown BW.out hg BW.out.size (fun k hk => by injection hk with hk; omega)); clear BW hg
  have BW := Lib.hid X.out; clear X
  clear HGE
  go_wp2
  go_loopw [7, 8] (fun ii _ wr => ∃ (j : Nat) (acc : List (List UInt8)) (rj : List UInt8) (bj : Bool) (Aj : Option Addr) (kj : Nat), j ≤ N ∧ ii = .int .i64 (j : Int) ∧ acc.length = j ∧ rj.length ≤ 1048576 ∧ acc ++ (cutsL (N - j) rj bj).1 = acc9 ∧ (cutsL (N - j) rj bj).2 = (r9, b9) ∧ ScanCell wr (w.heap.size + 1) rj bj ∧ Blk wr w.heap.size 38 [.int .i64 0, .int .i64 0, .int .i64 0, .string (bs []), .string (bs []), .string (bs []), .int .i64 0, .slice none 0 0].toArray ∧ Blk wr gc 38 [.int .i64 (n1 : Int), .int .i64 (n2 : Int), .int .i64 (n3 : Int), .string (bs t5), .string (bs t6), .string (bs t7), .int .i64 (n4 : Int), .slice Aj j kj].toArray ∧ wr.ownsRow (gc + 1) 9 1 (.slice Aj j kj) j (acc.map strv) ∧ Below w.heap.size w wr ∧ gc + 1 ≤ wr.heap.size) (fun ii _ _ => N - (intOf ii).toNat)
  case atStart => exact ⟨0, [], r8, b8, none, 0, Nat.zero_le _, rfl, rfl, l8', by rw [Nat.sub_zero, H9.out]; rfl, by rw [Nat.sub_zero, H9.out], HS.out, ZB.out, CB.out, ⟨by simp, .inl ⟨rfl, rfl⟩⟩, BW.out, HGB.out⟩
  case round =>
    obtain ⟨j, acc, rj, bj, Aj, kj, hj, rfl, hal, hrl, he1, he2, hsc, hzb, hcb, hown, hbw, hgb⟩ := hrel
    clear HS ZB CB BW HZ HGB
    have HS := Lib.hid hsc; clear hsc
    have ZB := Lib.hid hzb; clear hzb
    have CB := Lib.hid hcb; clear hcb
    have HO := Lib.hid hown; clear hown
    have BW := Lib.hid hbw; clear hbw
    have HGB := Lib.hid hgb; clear hgb
    have HAL := Lib.hid hal; clear hal
    have HE1 := Lib.hid he1; clear he1
    have HE2 := Lib.hid he2; clear he2
    by_cases hlt : j < N
    · have hN8 : N = n8 := hN3 (by omega)
      have hjn : (j : Int) < (n8 : Int) := by omega
      have hn84 : (n8 : Int) ≤ 4 := by omega
      obtain ⟨tc, rc, bc, hc⟩ : ∃ a b c, scanCut rj bj 8 = (a, b, c) := ⟨_, _, _, rfl⟩
      have lc := (scanCut_len rj bj 8).1
      rw [hc] at lc
      simp only [] at lc
      have hrc : rc.length ≤ 1048576 := by omega
      clear lc
      have he1 := HE1.out
      have he2 := HE2.out
      rw [show N - j = (N - (j + 1)) + 1 by omega, cutsL, hc] at he1 he2
      simp only [] at he1 he2
      have HE1' := Lib.hid (show (acc ++ [tc]) ++ (cutsL (N - (j + 1)) rc bc).1 = acc9 by rw [← he1, List.append_assoc]; rfl)
      have HE2' := Lib.hid he2
      clear he1 he2 HE1 HE2
      have HC := Lib.hid hc; clear hc
      go_wp2_with fail
      refine (scanCut_any (w.heap.size + 1) rj bj 8 _ (by omega) HS.out).mono ?_; rintro e v2 ⟨rfl, hs, hg⟩
      rw [HC.out] at hs ⊢
      simp only [] at hs ⊢
      clear HS
      have HS := Lib.hid hs; clear hs
      have X := Lib.hid (ZB.out.grown hg (by omega)); clear ZB
      have ZB := Lib.hid X.out; clear X
      have X := Lib.hid (CB.out.grown hg (fun e => by have := HGC.out; omega)); clear CB
      have CB := Lib.hid X.out; clear X
      have X := Lib.hid (HO.out.kept hg (.inr (fun e => by have := (HO.out.lt _ e).1; have := HGC.out; omega))); clear HO
      have HO := Lib.hid X.out; clear X
      have X := Lib.hid (Nat.le_trans HGB.out hg.size); clear HGB
      have HGB := Lib.hid X.out; clear X
      have X := Lib.hid (Below.grown BW.out hg BW.out.size (fun k hk => by injection hk with hk; omega)); clear BW hg
      have BW := Lib.hid X.out; clear X
      have hq : v2.cell? ⟨gc, 7, none⟩ = some (.slice Aj j kj) := blk_cell0 (L := [.int .i64 (n1 : Int), .int .i64 (n2 : Int), .int .i64 (n3 : Int), .string (bs t5), .string (bs t6), .string (bs t7), .int .i64 (n4 : Int), .slice Aj j kj]) CB.out 7 rfl
      go_wp2_with (at_builtin; go_must (refine wpList_app E_str _ rfl _ _ rfl (gc + 1) _ j _ rfl (HO.out.alloc _) _ _ _ _ rfl (Reads.new rfl) (one1 rfl) (by omega) (Nat.le_trans HGB.out (by simp)) ?_; intro vv w3 hown3 hg3 hat3; obtain ⟨Av, kv, rfl, _⟩ := SlR.of_own hown3; have hgb3 : ∀ k, (Value.slice Aj j kj).ownBlock = some k → gc < k := (fun k hk => by have := (HO.out.lt k hk).1; omega); have hcb3 := Blk.keep (CB.out.alloc (.cells #[.string (bs tc)] 9)) (hg3.block _ (CB.out.alloc _).lt (fun e => by have := hgb3 _ e.symm; omega)); have hq3 : w3.cell? ⟨gc, 7, none⟩ = some (.slice Aj j kj) := blk_cell0 (L := [.int .i64 (n1 : Int), .int .i64 (n2 : Int), .int .i64 (n3 : Int), .string (bs t5), .string (bs t6), .string (bs t7), .int .i64 (n4 : Int), .slice Aj j kj]) hcb3 7 rfl; have hfz3 : w3.frozen? ⟨gc, 7, none⟩ = false := hcb3.frozen 7; have HCB3 := Lib.hid hcb3; have HO3 := Lib.hid hown3; have HG3 := Lib.hid hg3; have HGB3 := Lib.hid hgb3; have HAT3 := Lib.hid hat3; clear hcb3 hown3 hg3 hgb3 hat3))
      have hsz3 : v2.heap.size + 1 ≤ w3.heap.size := Nat.le_trans (by simp) HG3.out.size
      have hbv : ∀ k, (Value.slice Av (j + 1) kv).ownBlock = some k → gc < k := fun k hk => by
        rcases HAT3.out with h | h
        · exact HGB3.out k (h.symm.trans hk)
        · have e := hk.symm.trans h
          injection e with e
          have := HGB.out
          simp at e
          omega
      have hsc3 : ScanCell w3 (w.heap.size + 1) rc bc := ScanCell.of (Blk.keep (HS.out.blk.alloc (.cells #[.string (bs tc)] 9)) (HG3.out.block _ (HS.out.blk.alloc _).lt (fun e => by have := HGB3.out _ e.symm; have := HGC.out; omega)))
      have hzb3 := Blk.keep (ZB.out.alloc (.cells #[.string (bs tc)] 9)) (HG3.out.block _ (ZB.out.alloc _).lt (fun e => by have := HGB3.out _ e.symm; have := HGC.out; omega))
      have hbw3 : Below w.heap.size w w3 := Below.grown (BW.out.alloc BW.out.size _) HG3.out (Nat.le_trans BW.out.size (by simp)) (fun k hk => by have := HGB3.out k hk; have := HGC.out; omega)
      have hown4 : (w3.setCell ⟨gc, 7, none⟩ (.slice Av (j + 1) kv)).ownsRow (gc + 1) 9 1 (.slice Av (j + 1) kv) (j + 1) ((acc ++ [tc]).map strv) := by
        rw [List.map_append]
        exact ownsRow_keep HO3.out (fun k hk => ⟨(HO3.out.lt k hk).1, Below.heap_setCell _ _ _ _ (fun e => by have := hbv k hk; have e2 : k = gc := e; omega)⟩)
      exact ⟨⟨j + 1, acc ++ [tc], rc, bc, Av, kv, by omega, by go_num, by rw [List.length_append, HAL.out]; rfl, hrc, HE1'.out, HE2'.out, ScanCell.of (Blk.setOther hsc3.blk (a := ⟨gc, 7, none⟩) (by have := HGC.out; show gc ≠ _; omega) _), Blk.setOther hzb3 (a := ⟨gc, 7, none⟩) (by have := HGC.out; show gc ≠ _; omega) _, blk_put0 HCB3.out 7 _, hown4, Below.setCell hbw3 (p := ⟨gc, 7, none⟩) (by have := HGC.out; show _ ≤ gc; omega) _, by rw [setCell_size]; have := HGB.out; omega⟩, by simp only [intOf]; omega⟩
    · have hjN : j = N := by omega
      subst hjN
      have he1 := HE1.out
      have he2 := HE2.out
      rw [Nat.sub_self, cutsL] at he1 he2
      simp only [List.append_nil] at he1
      injection he2 with e1 e2
      subst e1 e2 he1
      clear HE1 HE2 hlt
      have HCP := HPC.out
      have hbad : World.cell? wr ⟨w.heap.size + 1, 1, none⟩ = some (.bool bj) := HS.out.c1
      rw [← HAL.out] at HO CB
      obtain ⟨cc, hcc⟩ : ∃ cc : CmdD, cc = ⟨(n1 : Int), (n2 : Int), (n3 : Int), t5, t6, t7, (n4 : Int), acc⟩ := ⟨_, rfl⟩
      have hrep : Mine wr (gc + 1) cc.c [.int .i64 (n1 : Int), .int .i64 (n2 : Int), .int .i64 (n3 : Int), .string (bs t5), .string (bs t6), .string (bs t7), .int .i64 (n4 : Int), .slice Aj acc.length kj] := by rw [hcc]; exact cmd_mine HO.out
      rw [← hcc] at HCP
      have HW2 := HWT.out
      rw [← hcc] at HW2
      have hR1 := @readCmd_i1 s
      have hR2 := @readCmd_i2 s
      rw [HCP, ← HR.out] at hR1 hR2
      simp only [] at hR1 hR2
      have HSH := Lib.hid (fun W h => iShowCmd_any cc [.int .i64 (n1 : Int), .int .i64 (n2 : Int), .int .i64 (n3 : Int), .string (bs t5), .string (bs t6), .string (bs t7), .int .i64 (n4 : Int), .slice Aj acc.length kj] W HW2 h)
      obtain ⟨sh, hsh⟩ : ∃ sh, sh = showCmdL cc := ⟨_, rfl⟩
      rw [← hsh] at HSH hR1 hR2
      have HR1 := Lib.hid hR1
      have HR2 := Lib.hid hR2
      have HREP := Lib.hid hrep
      have HCC := Lib.hid hcc
      clear hR1 hR2 hsh HCP HW2 hrep hcc HPC HWT HR
      rcases Nat.lt_or_ge 4 n8 with hn84 | hn84
      · have hj0 := hN4 (by omega)
        have hn1 : (0 : Int) < (n8 : Int) := by omega
        have hn2 : ¬ (n8 : Int) ≤ 4 := by omega
        have HJ0 := Lib.hid hj0
        have hj1 : (j : Int) < (n8 : Int) := by omega
        clear hj0 hN1 hN2 hN3 hN4 hj hn84
        cases hbj : bj
        case true =>
          subst hbj
          have hRz := HR1.out (.inl rfl)
          subst hRz
          go_wp2_with (first | ((with_reducible show wpList _ _ _ ({ dst := _, op := Op.store 38 _ _, type := _, pos := _, after := _, guard := _ } :: _) _ _); refine wpList_store_row _ w.heap.size 38 0 [.int .i64 0, .int .i64 0, .int .i64 0, .string (bs []), .string (bs []), .string (bs []), .int .i64 0, .slice none 0 0] [] [.int .i64 0, .int .i64 0, .int .i64 0, .string (bs []), .string (bs []), .string (bs []), .int .i64 0, .slice none 0 0] [] _ rfl rfl agg_Cmd ZB.out rfl rfl rfl (by simp [Value.oneCell']) ?_; intro v9 hzb hzg) | fail)
          exact bodyPost_cell2 rfl ⟨w.heap.size, 0, none⟩ rfl [.int .i64 0, .int .i64 0, .int .i64 0, .string (bs []), .string (bs []), .string (bs []), .int .i64 0, .slice none 0 0] _ rfl agg_Cmd rfl (blk_cells hzb) rfl ⟨_, rfl, zeroCmd_mine _ _, Below.grown BW.out hzg BW.out.size (fun k hk => by injection hk with hk; omega)⟩
        case false =>
          subst hbj
          have hsn := HBN.out rfl
          have hE1 : s.isEmpty = false := by cases s with | nil => exact absurd rfl hsn | cons _ _ => rfl
          go_wp2_with (first | ((with_reducible show wpList _ _ _ ({ dst := _, op := Op.load 38 _, type := _, pos := _, after := _, guard := _ } :: _) _ _); refine wpList_load_row_g _ (by first | rfl | kernel_rfl) ⟨gc, 0, none⟩ rfl [.int .i64 (n1 : Int), .int .i64 (n2 : Int), .int .i64 (n3 : Int), .string (bs t5), .string (bs t6), .string (bs t7), .int .i64 (n4 : Int), .slice Aj acc.length kj] agg_Cmd rfl (blk_cells CB.out) ?_) | fail)
          refine (HSH.out _ HREP.out.rep.any).mono ?_; rintro e v9 ⟨rfl, hb⟩
          have X := Lib.hid (ZB.out.below hb); clear ZB
          have ZB := Lib.hid X.out; clear X
          have X := Lib.hid (CB.out.below hb); clear CB
          have CB := Lib.hid X.out; clear X
          have X := Lib.hid (HREP.out.below hb); clear HREP
          have HREP := Lib.hid X.out; clear X
          have X := Lib.hid (Nat.le_trans HGB.out hb.size); clear HGB
          have HGB := Lib.hid X.out; clear X
          have X := Lib.hid (show Below w.heap.size w v9 from BW.out.trans (hb.mono BW.out.size)); clear BW hb
          have BW := Lib.hid X.out; clear X
          have HO9 := Lib.hid (HO.out); clear HO
          by_cases hq : sh = s
          · have hRz := HR2.out hsn hq
            subst hRz
            have hb1 : (sh == s) = true := by simp [hq]
            clear hq hsn
            go_wp2_with (first | ((with_reducible show wpList _ _ _ ({ dst := _, op := Op.load 38 _, type := _, pos := _, after := _, guard := _ } :: _) _ _); refine wpList_load_row_g _ (by first | rfl | kernel_rfl) ⟨gc, 0, none⟩ rfl [.int .i64 (n1 : Int), .int .i64 (n2 : Int), .int .i64 (n3 : Int), .string (bs t5), .string (bs t6), .string (bs t7), .int .i64 (n4 : Int), .slice Aj acc.length kj] agg_Cmd rfl (blk_cells CB.out) ?_) | ((with_reducible show wpList _ _ _ ({ dst := _, op := Op.store 38 _ _, type := _, pos := _, after := _, guard := _ } :: _) _ _); refine wpList_store_row _ w.heap.size 38 0 [.int .i64 (n1 : Int), .int .i64 (n2 : Int), .int .i64 (n3 : Int), .string (bs t5), .string (bs t6), .string (bs t7), .int .i64 (n4 : Int), .slice Aj acc.length kj] [] [.int .i64 0, .int .i64 0, .int .i64 0, .string (bs []), .string (bs []), .string (bs []), .int .i64 0, .slice none 0 0] [] _ rfl rfl agg_Cmd ZB.out rfl rfl rfl (by simp [Value.oneCell']) ?_; intro v10 hzb hzg) | fail)
            exact bodyPost_cell2 rfl ⟨w.heap.size, 0, none⟩ rfl [.int .i64 (n1 : Int), .int .i64 (n2 : Int), .int .i64 (n3 : Int), .string (bs t5), .string (bs t6), .string (bs t7), .int .i64 (n4 : Int), .slice Aj acc.length kj] _ rfl agg_Cmd rfl (blk_cells hzb) rfl ⟨_, rfl, HREP.out.grownAt hzg (fun e => by have := HGC.out; omega) (by have := HGC.out; omega), Below.grown BW.out hzg BW.out.size (fun k hk => by injection hk with hk; omega)⟩
          · have hRz := HR1.out (.inr (.inr hq))
            subst hRz
            have hb1 : (sh == s) = false := by simpa using hq
            clear hq hsn
            go_wp2_with (first | ((with_reducible show wpList _ _ _ ({ dst := _, op := Op.store 38 _ _, type := _, pos := _, after := _, guard := _ } :: _) _ _); refine wpList_store_row _ w.heap.size 38 0 [.int .i64 0, .int .i64 0, .int .i64 0, .string (bs []), .string (bs []), .string (bs []), .int .i64 0, .slice none 0 0] [] [.int .i64 0, .int .i64 0, .int .i64 0, .string (bs []), .string (bs []), .string (bs []), .int .i64 0, .slice none 0 0] [] _ rfl rfl agg_Cmd ZB.out rfl rfl rfl (by simp [Value.oneCell']) ?_; intro v9 hzb hzg) | fail)
            exact bodyPost_cell2 rfl ⟨w.heap.size, 0, none⟩ rfl [.int .i64 0, .int .i64 0, .int .i64 0, .string (bs []), .string (bs []), .string (bs []), .int .i64 0, .slice none 0 0] _ rfl agg_Cmd rfl (blk_cells hzb) rfl ⟨_, rfl, zeroCmd_mine _ _, Below.grown BW.out hzg BW.out.size (fun k hk => by injection hk with hk; omega)⟩
      · have hj0 := hN3 (by omega)
        subst hj0
        clear hN1 hN2 hN3 hN4 hj hn84
        cases hbj : bj
        case true =>
          subst hbj
          have hRz := HR1.out (.inl rfl)
          subst hRz
          go_wp2_with (first | ((with_reducible show wpList _ _ _ ({ dst := _, op := Op.store 38 _ _, type := _, pos := _, after := _, guard := _ } :: _) _ _); refine wpList_store_row _ w.heap.size 38 0 [.int .i64 0, .int .i64 0, .int .i64 0, .string (bs []), .string (bs []), .string (bs []), .int .i64 0, .slice none 0 0] [] [.int .i64 0, .int .i64 0, .int .i64 0, .string (bs []), .string (bs []), .string (bs []), .int .i64 0, .slice none 0 0] [] _ rfl rfl agg_Cmd ZB.out rfl rfl rfl (by simp [Value.oneCell']) ?_; intro v9 hzb hzg) | fail)
          exact bodyPost_cell2 rfl ⟨w.heap.size, 0, none⟩ rfl [.int .i64 0, .int .i64 0, .int .i64 0, .string (bs []), .string (bs []), .string (bs []), .int .i64 0, .slice none 0 0] _ rfl agg_Cmd rfl (blk_cells hzb) rfl ⟨_, rfl, zeroCmd_mine _ _, Below.grown BW.out hzg BW.out.size (fun k hk => by injection hk with hk; omega)⟩
        case false =>
          subst hbj
          have hsn := HBN.out rfl
          have hE1 : s.isEmpty = false := by cases s with | nil => exact absurd rfl hsn | cons _ _ => rfl
          go_wp2_with (first | ((with_reducible show wpList _ _ _ ({ dst := _, op := Op.load 38 _, type := _, pos := _, after := _, guard := _ } :: _) _ _); refine wpList_load_row_g _ (by first | rfl | kernel_rfl) ⟨gc, 0, none⟩ rfl [.int .i64 (n1 : Int), .int .i64 (n2 : Int), .int .i64 (n3 : Int), .string (bs t5), .string (bs t6), .string (bs t7), .int .i64 (n4 : Int), .slice Aj acc.length kj] agg_Cmd rfl (blk_cells CB.out) ?_) | fail)
          refine (HSH.out _ HREP.out.rep.any).mono ?_; rintro e v9 ⟨rfl, hb⟩
          have X := Lib.hid (ZB.out.below hb); clear ZB
          have ZB := Lib.hid X.out; clear X
          have X := Lib.hid (CB.out.below hb); clear CB
          have CB := Lib.hid X.out; clear X
          have X := Lib.hid (HREP.out.below hb); clear HREP
          have HREP := Lib.hid X.out; clear X
          have X := Lib.hid (Nat.le_trans HGB.out hb.size); clear HGB
          have HGB := Lib.hid X.out; clear X
          have X := Lib.hid (show Below w.heap.size w v9 from BW.out.trans (hb.mono BW.out.size)); clear BW hb
          have BW := Lib.hid X.out; clear X
          have HO9 := Lib.hid (HO.out); clear HO
          by_cases hq : sh = s
          · have hRz := HR2.out hsn hq
            subst hRz
            have hb1 : (sh == s) = true := by simp [hq]
            clear hq hsn
            go_wp2_with (first | ((with_reducible show wpList _ _ _ ({ dst := _, op := Op.load 38 _, type := _, pos := _, after := _, guard := _ } :: _) _ _); refine wpList_load_row_g _ (by first | rfl | kernel_rfl) ⟨gc, 0, none⟩ rfl [.int .i64 (n1 : Int), .int .i64 (n2 : Int), .int .i64 (n3 : Int), .string (bs t5), .string (bs t6), .string (bs t7), .int .i64 (n4 : Int), .slice Aj acc.length kj] agg_Cmd rfl (blk_cells CB.out) ?_) | ((with_reducible show wpList _ _ _ ({ dst := _, op := Op.store 38 _ _, type := _, pos := _, after := _, guard := _ } :: _) _ _); refine wpList_store_row _ w.heap.size 38 0 [.int .i64 (n1 : Int), .int .i64 (n2 : Int), .int .i64 (n3 : Int), .string (bs t5), .string (bs t6), .string (bs t7), .int .i64 (n4 : Int), .slice Aj acc.length kj] [] [.int .i64 0, .int .i64 0, .int .i64 0, .string (bs []), .string (bs []), .string (bs []), .int .i64 0, .slice none 0 0] [] _ rfl rfl agg_Cmd ZB.out rfl rfl rfl (by simp [Value.oneCell']) ?_; intro v10 hzb hzg) | fail)
            exact bodyPost_cell2 rfl ⟨w.heap.size, 0, none⟩ rfl [.int .i64 (n1 : Int), .int .i64 (n2 : Int), .int .i64 (n3 : Int), .string (bs t5), .string (bs t6), .string (bs t7), .int .i64 (n4 : Int), .slice Aj acc.length kj] _ rfl agg_Cmd rfl (blk_cells hzb) rfl ⟨_, rfl, HREP.out.grownAt hzg (fun e => by have := HGC.out; omega) (by have := HGC.out; omega), Below.grown BW.out hzg BW.out.size (fun k hk => by injection hk with hk; omega)⟩
          · have hRz := HR1.out (.inr (.inr hq))
            subst hRz
            have hb1 : (sh == s) = false := by simpa using hq
            clear hq hsn
            go_wp2_with (first | ((with_reducible show wpList _ _ _ ({ dst := _, op := Op.store 38 _ _, type := _, pos := _, after := _, guard := _ } :: _) _ _); refine wpList_store_row _ w.heap.size 38 0 [.int .i64 0, .int .i64 0, .int .i64 0, .string (bs []), .string (bs []), .string (bs []), .int .i64 0, .slice none 0 0] [] [.int .i64 0, .int .i64 0, .int .i64 0, .string (bs []), .string (bs []), .string (bs []), .int .i64 0, .slice none 0 0] [] _ rfl rfl agg_Cmd ZB.out rfl rfl rfl (by simp [Value.oneCell']) ?_; intro v9 hzb hzg) | fail)
            exact bodyPost_cell2 rfl ⟨w.heap.size, 0, none⟩ rfl [.int .i64 0, .int .i64 0, .int .i64 0, .string (bs []), .string (bs []), .string (bs []), .int .i64 0, .slice none 0 0] _ rfl agg_Cmd rfl (blk_cells hzb) rfl ⟨_, rfl, zeroCmd_mine _ _, Below.grown BW.out hzg BW.out.size (fun k hk => by injection hk with hk; omega)⟩

end Go.Proofs.Ytinacpjelephoaa
