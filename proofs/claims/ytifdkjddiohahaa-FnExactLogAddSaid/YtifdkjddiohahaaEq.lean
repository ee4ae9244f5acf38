/-
  The laws' helpers eq*, asked about equal data. Conditions: a bound on the sizes.
-/
import Derived.Test.YtifdkjddiohahaaTo
namespace Go.Proofs.Ytifdkjddiohahaa
open Go.RowKit

theorem blk2_0 (w : World) (c : Array Value) (e : Nat) (o1 : Obj) : Blk ((w.alloc (.cells c e)).alloc o1) w.heap.size e c := (blk_new w c e).alloc _
theorem blk2_1 (w : World) (o : Obj) (c : Array Value) (e : Nat) : Blk ((w.alloc o).alloc (.cells c e)) (w.heap.size + 1) e c := by
  have := blk_new (w.alloc o) c e
  simpa using this

set_option maxRecDepth 100000 in
set_option maxHeartbeats 1000000 in
theorem eqStringS_any' (xs : List (List UInt8)) (A A' : Option Addr) (n c c' : Nat) (w : World) (hn : n = xs.length) (hwt : n + (cat strC xs).wt ≤ 4611686018427387904) (h : Rep anyB w (.sl 9 1 n (cat strC xs) .nil) [.slice A n c]) (h' : Rep anyB w (.sl 9 1 n (cat strC xs) .nil) [.slice A' n c']) :
    Calls Try.prog 46 #[.slice A n c, .slice A' n c'] w fun e w' => e = .returned (.bool true) ∧ Below w.heap.size w w' := by
  subst hn
  exact eqStringS_any _ _ xs w (by omega) h.strs h'.strs












































set_option maxRecDepth 100000 in
set_option maxHeartbeats 1000000 in
theorem eqId_any (x : IdD) (cs cs' : List Value) (w : World) (hwt : x.c.wt ≤ 4611686018427387904) (h : Rep anyB w x.c cs) (h' : Rep anyB w x.c cs') :
    Calls Try.prog 78 #[.agg cs.toArray, .agg cs'.toArray] w fun e w' => e = .returned (.bool true) ∧ Below w.heap.size w w' := by
  obtain rfl := IdD.open h
  obtain rfl := IdD.open h'
  have hw0 : x.c.wt = 0 := rfl
  rw [hw0] at hwt
  have HWT := Lib.hid hwt; clear hwt hw0 h h'
  go_enter Try.func78, Try.ntmps78
  go_wp2
  go_ret
  exact ⟨ret_eq rfl, (by repeat' (first | with_reducible exact Below.refl _ _ | with_reducible refine Below.alloc ?_ ?_ _ | (simp; done) | (simp; omega) | omega))⟩


set_option maxRecDepth 100000 in
set_option maxHeartbeats 1000000 in
theorem eqCmd_any (x : CmdD) (cs cs' : List Value) (w : World) (hwt : x.c.wt ≤ 4611686018427387904) (h : Rep anyB w x.c cs) (h' : Rep anyB w x.c cs') :
    Calls Try.prog 19 #[.agg cs.toArray, .agg cs'.toArray] w fun e w' => e = .returned (.bool true) ∧ Below w.heap.size w w' := by
  obtain ⟨A0, k0, rfl, s0⟩ := CmdD.open h
  obtain ⟨A'0, k'0, rfl, t0⟩ := CmdD.open h'
  have hw0 : x.c.wt = (x.set.length + (x.name.length + (x.tag.length + (x.chunks.length + (cat strC x.chunks).wt + 0)))) := rfl
  rw [hw0] at hwt
  have HWT := Lib.hid hwt; clear hwt hw0 h h'
  have S0 := Lib.hid s0; clear s0
  have T0 := Lib.hid t0; clear t0
  go_enter Try.func19, Try.ntmps19
  go_wp2_with fail
  refine (eqStringS_any' x.chunks _ _ _ _ _ _ rfl (by have := HWT.out; omega) (S0.out.below (by repeat' (first | with_reducible exact Below.refl _ _ | with_reducible refine Below.alloc ?_ ?_ _ | (simp; done) | (simp; omega) | omega))) (T0.out.below (by repeat' (first | with_reducible exact Below.refl _ _ | with_reducible refine Below.alloc ?_ ?_ _ | (simp; done) | (simp; omega) | omega)))).mono ?_; rintro e v1 ⟨rfl, hb⟩
  have SB := Lib.hid (Blk.below (blk2_0 _ _ _ _) hb)
  have TB := Lib.hid (Blk.below (blk2_1 _ _ _ _) hb)
  have BW := Lib.hid (show Below w.heap.size w v1 from Below.trans (by repeat' (first | with_reducible exact Below.refl _ _ | with_reducible refine Below.alloc ?_ ?_ _ | (simp; done) | (simp; omega) | omega)) (hb.mono (by first | (simp; done) | (simp; omega) | omega)))
  clear hb
  go_wp2
  go_ret
  exact ⟨ret_eq rfl, BW.out⟩


set_option maxRecDepth 100000 in
set_option maxHeartbeats 1000000 in
theorem eqSeg_any (x : SegD) (cs cs' : List Value) (w : World) (hwt : x.c.wt ≤ 4611686018427387904) (h : Rep anyB w x.c cs) (h' : Rep anyB w x.c cs') :
    Calls Try.prog 99 #[.agg cs.toArray, .agg cs'.toArray] w fun e w' => e = .returned (.bool true) ∧ Below w.heap.size w w' := by
  obtain rfl := SegD.open h
  obtain rfl := SegD.open h'
  have hw0 : x.c.wt = (x.text.length + 0) := rfl
  rw [hw0] at hwt
  have HWT := Lib.hid hwt; clear hwt hw0 h h'
  go_enter Try.func99, Try.ntmps99
  go_wp2
  go_ret
  exact ⟨ret_eq rfl, (by repeat' (first | with_reducible exact Below.refl _ _ | with_reducible refine Below.alloc ?_ ?_ _ | (simp; done) | (simp; omega) | omega))⟩


set_option maxRecDepth 100000 in
set_option maxHeartbeats 1000000 in
theorem eqIdS_any (xs : List IdD) (A A' : Option Addr) (n c c' : Nat) (w : World) (hn : n = xs.length) (hwt : n + (cat IdD.c xs).wt ≤ 4611686018427387904) (h : Rep anyB w (.sl 84 2 n (cat IdD.c xs) .nil) [.slice A n c]) (h' : Rep anyB w (.sl 84 2 n (cat IdD.c xs) .nil) [.slice A' n c']) :
    Calls Try.prog 34 #[.slice A n c, .slice A' n c'] w fun e w' => e = .returned (.bool true) ∧ Below w.heap.size w w' := by
  have HR := Lib.hid h; clear h
  have HR' := Lib.hid h'; clear h'
  have HN := Lib.hid hn; clear hn
  have HWT := Lib.hid hwt; clear hwt
  have hn1 : n ≤ 4611686018427387904 := by have := HWT.out; omega
  go_enter Try.func34, Try.ntmps34
  go_wp2
  go_loopw [5] (fun ii wr => ∃ (j : Nat), j ≤ n ∧ ii = .int .i64 (j : Int) ∧ Below w.heap.size w wr) (fun ii _ => n - (intOf ii).toNat)
  case atStart => exact ⟨0, Nat.zero_le _, rfl, Below.refl _ _⟩
  case round =>
    obtain ⟨j, hj, rfl, hbel⟩ := hrel
    have H2 := Lib.hid hbel; clear hbel
    by_cases hlt : j < n
    · have hjx : j < xs.length := by have := HN.out; omega
      obtain ⟨ad, ci, rfl, _, _, hrc, hl, hc⟩ := (HR.out.below H2.out).elem IdD.width j hjx HN.out
      obtain ⟨ad', ci', rfl, _, _, hrc', hl', hc'⟩ := (HR'.out.below H2.out).elem IdD.width j hjx HN.out
      have hsl := cat_wt_le (f := IdD.c) (List.getElem_mem hjx)
      generalize xs[j] = x at *
      have HL := Lib.hid hl; clear hl
      have HC := Lib.hid hc; clear hc
      have HRC := Lib.hid hrc; clear hrc
      have HL' := Lib.hid hl'; clear hl'
      have HC' := Lib.hid hc'; clear hc'
      have HRC' := Lib.hid hrc'; clear hrc'
      have HSL := Lib.hid hsl; clear hsl
      go_wp2
      refine wp_region_x 10 [0, 1, 2, 3, 4, 5, 6, 7, 8, 9] (by kernel_rfl) (by kernel_rfl) ?_
      iterate 3 (refine wpX_quiet rfl (by kernel_rfl) rfl ?_; go_wp2; refine ⟨rfl, ?_⟩)
      refine wpX_quiet rfl (by kernel_rfl) rfl ?_; go_wp2_with (first | (refine wpList_load_row _ (ad.add (j * 2)) rfl ci agg_Id HL.out HC.out ?_) | fail); refine ⟨rfl, ?_⟩
      iterate 3 (refine wpX_quiet rfl (by kernel_rfl) rfl ?_; go_wp2; refine ⟨rfl, ?_⟩)
      refine wpX_quiet rfl (by kernel_rfl) rfl ?_; go_wp2_with (first | (refine wpList_load_row _ (ad'.add (j * 2)) rfl ci' agg_Id HL'.out HC'.out ?_) | fail); refine ⟨rfl, ?_⟩
      refine wpX_actor rfl (by kernel_rfl) ?_
      go_wp2_with fail
      refine (eqId_any x ci ci' _ (by have := HWT.out; have := HSL.out; omega) HRC.out.drew HRC'.out.drew).mono ?_; rintro e w1 ⟨rfl, hb⟩
      have B1 := Lib.hid hb; clear hb
      go_wp2
      refine ⟨Ext.of_below B1.out, ?_⟩
      iterate 1 (refine wpX_quiet rfl (by kernel_rfl) rfl ?_; go_wp2; refine ⟨rfl, ?_⟩)
      refine wpX_nil ?_
      simp only [List.drop_succ_cons, List.drop_zero]
      go_wp2
      exact ⟨⟨j + 1, by omega, by go_num, H2.out.drew.trans (B1.out.mono H2.out.size)⟩, by simp only [intOf]; omega⟩
    · have hjn : j = n := by omega
      subst hjn
      go_wp2
      go_ret
      exact ⟨ret_eq rfl, H2.out⟩


set_option maxRecDepth 100000 in
set_option maxHeartbeats 1000000 in
theorem eqSegS_any (xs : List SegD) (A A' : Option Addr) (n c c' : Nat) (w : World) (hn : n = xs.length) (hwt : n + (cat SegD.c xs).wt ≤ 4611686018427387904) (h : Rep anyB w (.sl 90 2 n (cat SegD.c xs) .nil) [.slice A n c]) (h' : Rep anyB w (.sl 90 2 n (cat SegD.c xs) .nil) [.slice A' n c']) :
    Calls Try.prog 79 #[.slice A n c, .slice A' n c'] w fun e w' => e = .returned (.bool true) ∧ Below w.heap.size w w' := by
  have HR := Lib.hid h; clear h
  have HR' := Lib.hid h'; clear h'
  have HN := Lib.hid hn; clear hn
  have HWT := Lib.hid hwt; clear hwt
  have hn1 : n ≤ 4611686018427387904 := by have := HWT.out; omega
  go_enter Try.func79, Try.ntmps79
  go_wp2
  go_loopw [5] (fun ii wr => ∃ (j : Nat), j ≤ n ∧ ii = .int .i64 (j : Int) ∧ Below w.heap.size w wr) (fun ii _ => n - (intOf ii).toNat)
  case atStart => exact ⟨0, Nat.zero_le _, rfl, Below.refl _ _⟩
  case round =>
    obtain ⟨j, hj, rfl, hbel⟩ := hrel
    have H2 := Lib.hid hbel; clear hbel
    by_cases hlt : j < n
    · have hjx : j < xs.length := by have := HN.out; omega
      obtain ⟨ad, ci, rfl, _, _, hrc, hl, hc⟩ := (HR.out.below H2.out).elem SegD.width j hjx HN.out
      obtain ⟨ad', ci', rfl, _, _, hrc', hl', hc'⟩ := (HR'.out.below H2.out).elem SegD.width j hjx HN.out
      have hsl := cat_wt_le (f := SegD.c) (List.getElem_mem hjx)
      generalize xs[j] = x at *
      have HL := Lib.hid hl; clear hl
      have HC := Lib.hid hc; clear hc
      have HRC := Lib.hid hrc; clear hrc
      have HL' := Lib.hid hl'; clear hl'
      have HC' := Lib.hid hc'; clear hc'
      have HRC' := Lib.hid hrc'; clear hrc'
      have HSL := Lib.hid hsl; clear hsl
      go_wp2
      refine wp_region_x 10 [0, 1, 2, 3, 4, 5, 6, 7, 8, 9] (by kernel_rfl) (by kernel_rfl) ?_
      iterate 3 (refine wpX_quiet rfl (by kernel_rfl) rfl ?_; go_wp2; refine ⟨rfl, ?_⟩)
      refine wpX_quiet rfl (by kernel_rfl) rfl ?_; go_wp2_with (first | (refine wpList_load_row _ (ad.add (j * 2)) rfl ci agg_Seg HL.out HC.out ?_) | fail); refine ⟨rfl, ?_⟩
      iterate 3 (refine wpX_quiet rfl (by kernel_rfl) rfl ?_; go_wp2; refine ⟨rfl, ?_⟩)
      refine wpX_quiet rfl (by kernel_rfl) rfl ?_; go_wp2_with (first | (refine wpList_load_row _ (ad'.add (j * 2)) rfl ci' agg_Seg HL'.out HC'.out ?_) | fail); refine ⟨rfl, ?_⟩
      refine wpX_actor rfl (by kernel_rfl) ?_
      go_wp2_with fail
      refine (eqSeg_any x ci ci' _ (by have := HWT.out; have := HSL.out; omega) HRC.out.drew HRC'.out.drew).mono ?_; rintro e w1 ⟨rfl, hb⟩
      have B1 := Lib.hid hb; clear hb
      go_wp2
      refine ⟨Ext.of_below B1.out, ?_⟩
      iterate 1 (refine wpX_quiet rfl (by kernel_rfl) rfl ?_; go_wp2; refine ⟨rfl, ?_⟩)
      refine wpX_nil ?_
      simp only [List.drop_succ_cons, List.drop_zero]
      go_wp2
      exact ⟨⟨j + 1, by omega, by go_num, H2.out.drew.trans (B1.out.mono H2.out.size)⟩, by simp only [intOf]; omega⟩
    · have hjn : j = n := by omega
      subst hjn
      go_wp2
      go_ret
      exact ⟨ret_eq rfl, H2.out⟩


set_option maxRecDepth 100000 in
set_option maxHeartbeats 1000000 in
theorem eqLog_any (x : LogD) (cs cs' : List Value) (w : World) (hwt : x.c.wt ≤ 4611686018427387904) (h : Rep anyB w x.c cs) (h' : Rep anyB w x.c cs') :
    Calls Try.prog 37 #[.agg cs.toArray, .agg cs'.toArray] w fun e w' => e = .returned (.bool true) ∧ Below w.heap.size w w' := by
  obtain ⟨A0, k0, rfl, s0⟩ := LogD.open h
  obtain ⟨A'0, k'0, rfl, t0⟩ := LogD.open h'
  have hw0 : x.c.wt = (x.segs.length + (cat SegD.c x.segs).wt + 0) := rfl
  rw [hw0] at hwt
  have HWT := Lib.hid hwt; clear hwt hw0 h h'
  have S0 := Lib.hid s0; clear s0
  have T0 := Lib.hid t0; clear t0
  go_enter Try.func37, Try.ntmps37
  go_wp2_with fail
  refine (eqSegS_any x.segs _ _ _ _ _ _ rfl (by have := HWT.out; omega) (S0.out.below (by repeat' (first | with_reducible exact Below.refl _ _ | with_reducible refine Below.alloc ?_ ?_ _ | (simp; done) | (simp; omega) | omega))) (T0.out.below (by repeat' (first | with_reducible exact Below.refl _ _ | with_reducible refine Below.alloc ?_ ?_ _ | (simp; done) | (simp; omega) | omega)))).mono ?_; rintro e v1 ⟨rfl, hb⟩
  have SB := Lib.hid (Blk.below (blk2_0 _ _ _ _) hb)
  have TB := Lib.hid (Blk.below (blk2_1 _ _ _ _) hb)
  have BW := Lib.hid (show Below w.heap.size w v1 from Below.trans (by repeat' (first | with_reducible exact Below.refl _ _ | with_reducible refine Below.alloc ?_ ?_ _ | (simp; done) | (simp; omega) | omega)) (hb.mono (by first | (simp; done) | (simp; omega) | omega)))
  clear hb
  have hs1 : World.cell? v1 ⟨w.heap.size, 1, none⟩ = some (.int .i64 x.next) := blk_cell0 (L := [.slice A0 x.segs.length k0, .int .i64 x.next, .int .i64 x.mark]) SB.out 1 rfl
  have ht1 : World.cell? v1 ⟨w.heap.size + 1, 1, none⟩ = some (.int .i64 x.next) := blk_cell0 (L := [.slice A'0 x.segs.length k'0, .int .i64 x.next, .int .i64 x.mark]) TB.out 1 rfl
  have hs2 : World.cell? v1 ⟨w.heap.size, 2, none⟩ = some (.int .i64 x.mark) := blk_cell0 (L := [.slice A0 x.segs.length k0, .int .i64 x.next, .int .i64 x.mark]) SB.out 2 rfl
  have ht2 : World.cell? v1 ⟨w.heap.size + 1, 2, none⟩ = some (.int .i64 x.mark) := blk_cell0 (L := [.slice A'0 x.segs.length k'0, .int .i64 x.next, .int .i64 x.mark]) TB.out 2 rfl
  go_wp2
  go_ret
  exact ⟨ret_eq rfl, BW.out⟩


















































































































































































































































































































































































































































































































































































































































end Go.Proofs.Ytifdkjddiohahaa
