/-
  The laws' helpers eq*, asked about equal data. Conditions: a bound on the sizes.
-/
import Derived.Test.YtmhbfeglnhangaaDoorTo
namespace Go.Proofs.YtmhbfeglnhangaaDoor
open Go.RowKit

theorem blk2_0 (w : World) (c : Array Value) (e : Nat) (o1 : Obj) : Blk ((w.alloc (.cells c e)).alloc o1) w.heap.size e c := (blk_new w c e).alloc _
theorem blk2_1 (w : World) (o : Obj) (c : Array Value) (e : Nat) : Blk ((w.alloc o).alloc (.cells c e)) (w.heap.size + 1) e c := by
  have := blk_new (w.alloc o) c e
  simpa using this













































































































































































































































set_option maxRecDepth 100000 in
set_option maxHeartbeats 1000000 in
theorem eqBlob_any (x : BlobD) (cs cs' : List Value) (w : World) (hwt : x.c.wt ≤ 4611686018427387904) (h : Rep anyB w x.c cs) (h' : Rep anyB w x.c cs') :
    Calls Tryd.prog 44 #[.agg cs.toArray, .agg cs'.toArray] w fun e w' => e = .returned (.bool true) ∧ Below w.heap.size w w' := by
  obtain rfl := BlobD.open h
  obtain rfl := BlobD.open h'
  have hw0 : x.c.wt = (x.id.length + (x.data.length + 0)) := rfl
  rw [hw0] at hwt
  have HWT := Lib.hid hwt; clear hwt hw0 h h'
  go_enter Tryd.func44, Tryd.ntmps44
  go_wp2
  go_ret
  exact ⟨ret_eq rfl, (by repeat' (first | with_reducible exact Below.refl _ _ | with_reducible refine Below.alloc ?_ ?_ _ | (simp; done) | (simp; omega) | omega))⟩


set_option maxRecDepth 100000 in
set_option maxHeartbeats 1000000 in
theorem eqBlobS_any (xs : List BlobD) (A A' : Option Addr) (n c c' : Nat) (w : World) (hn : n = xs.length) (hwt : n + (cat BlobD.c xs).wt ≤ 4611686018427387904) (h : Rep anyB w (.sl 54 3 n (cat BlobD.c xs) .nil) [.slice A n c]) (h' : Rep anyB w (.sl 54 3 n (cat BlobD.c xs) .nil) [.slice A' n c']) :
    Calls Tryd.prog 35 #[.slice A n c, .slice A' n c'] w fun e w' => e = .returned (.bool true) ∧ Below w.heap.size w w' := by
  have HR := Lib.hid h; clear h
  have HR' := Lib.hid h'; clear h'
  have HN := Lib.hid hn; clear hn
  have HWT := Lib.hid hwt; clear hwt
  have hn1 : n ≤ 4611686018427387904 := by have := HWT.out; omega
  go_enter Tryd.func35, Tryd.ntmps35
  go_wp2
  go_loopw [5] (fun ii wr => ∃ (j : Nat), j ≤ n ∧ ii = .int .i64 (j : Int) ∧ Below w.heap.size w wr) (fun ii _ => n - (intOf ii).toNat)
  case atStart => exact ⟨0, Nat.zero_le _, rfl, Below.refl _ _⟩
  case round =>
    obtain ⟨j, hj, rfl, hbel⟩ := hrel
    have H2 := Lib.hid hbel; clear hbel
    by_cases hlt : j < n
    · have hjx : j < xs.length := by have := HN.out; omega
      obtain ⟨ad, ci, rfl, _, _, hrc, hl, hc⟩ := (HR.out.below H2.out).elem BlobD.width j hjx HN.out
      obtain ⟨ad', ci', rfl, _, _, hrc', hl', hc'⟩ := (HR'.out.below H2.out).elem BlobD.width j hjx HN.out
      have hsl := cat_wt_le (f := BlobD.c) (List.getElem_mem hjx)
      generalize xs[j] = x at *
      have HL := Lib.hid hl; clear hl
      have HC := Lib.hid hc; clear hc
      have HRC := Lib.hid hrc; clear hrc
      have HL' := Lib.hid hl'; clear hl'
      have HC' := Lib.hid hc'; clear hc'
      have HRC' := Lib.hid hrc'; clear hrc'
      have HSL := Lib.hid hsl; clear hsl
      go_wp2
      refine wp_region_x 10 [0, 1, 2, 3, 4, 5, 6, 7, 8, 9] (by kernel_rfl) (by kernel_rfl) ?_
      iterate 3 (refine wpX_quiet rfl (by kernel_rfl) rfl ?_; go_wp2; refine ⟨rfl, ?_⟩)
      refine wpX_quiet rfl (by kernel_rfl) rfl ?_; go_wp2_with (first | (refine wpList_load_row _ (ad.add (j * 3)) rfl ci agg_Blob HL.out HC.out ?_) | fail); refine ⟨rfl, ?_⟩
      iterate 3 (refine wpX_quiet rfl (by kernel_rfl) rfl ?_; go_wp2; refine ⟨rfl, ?_⟩)
      refine wpX_quiet rfl (by kernel_rfl) rfl ?_; go_wp2_with (first | (refine wpList_load_row _ (ad'.add (j * 3)) rfl ci' agg_Blob HL'.out HC'.out ?_) | fail); refine ⟨rfl, ?_⟩
      refine wpX_actor rfl (by kernel_rfl) ?_
      go_wp2_with fail
      refine (eqBlob_any x ci ci' _ (by have := HWT.out; have := HSL.out; omega) HRC.out.drew HRC'.out.drew).mono ?_; rintro e w1 ⟨rfl, hb⟩
      have B1 := Lib.hid hb; clear hb
      go_wp2
      refine ⟨Ext.of_below B1.out, ?_⟩
      iterate 1 (refine wpX_quiet rfl (by kernel_rfl) rfl ?_; go_wp2; refine ⟨rfl, ?_⟩)
      refine wpX_nil ?_
      simp only [List.drop_succ_cons, List.drop_zero]
      go_wp2
      exact ⟨⟨j + 1, by omega, by go_num, H2.out.drew.trans (B1.out.mono H2.out.size)⟩, by simp only [intOf]; omega⟩
    · have hjn : j = n := by omega
      subst hjn
      go_wp2
      go_ret
      exact ⟨ret_eq rfl, H2.out⟩


set_option maxRecDepth 100000 in
set_option maxHeartbeats 1000000 in
theorem eqBlobs_any (x : BlobsD) (cs cs' : List Value) (w : World) (hwt : x.c.wt ≤ 4611686018427387904) (h : Rep anyB w x.c cs) (h' : Rep anyB w x.c cs') :
    Calls Tryd.prog 19 #[.agg cs.toArray, .agg cs'.toArray] w fun e w' => e = .returned (.bool true) ∧ Below w.heap.size w w' := by
  obtain ⟨A0, k0, rfl, s0⟩ := BlobsD.open h
  obtain ⟨A'0, k'0, rfl, t0⟩ := BlobsD.open h'
  have hw0 : x.c.wt = (x.list.length + (cat BlobD.c x.list).wt + 0) := rfl
  rw [hw0] at hwt
  have HWT := Lib.hid hwt; clear hwt hw0 h h'
  have S0 := Lib.hid s0; clear s0
  have T0 := Lib.hid t0; clear t0
  go_enter Tryd.func19, Tryd.ntmps19
  go_wp2_with fail
  refine (eqBlobS_any x.list _ _ _ _ _ _ rfl (by have := HWT.out; omega) (S0.out.below (by repeat' (first | with_reducible exact Below.refl _ _ | with_reducible refine Below.alloc ?_ ?_ _ | (simp; done) | (simp; omega) | omega))) (T0.out.below (by repeat' (first | with_reducible exact Below.refl _ _ | with_reducible refine Below.alloc ?_ ?_ _ | (simp; done) | (simp; omega) | omega)))).mono ?_; rintro e v1 ⟨rfl, hb⟩
  have SB := Lib.hid (Blk.below (blk2_0 _ _ _ _) hb)
  have TB := Lib.hid (Blk.below (blk2_1 _ _ _ _) hb)
  have BW := Lib.hid (show Below w.heap.size w v1 from Below.trans (by repeat' (first | with_reducible exact Below.refl _ _ | with_reducible refine Below.alloc ?_ ?_ _ | (simp; done) | (simp; omega) | omega)) (hb.mono (by first | (simp; done) | (simp; omega) | omega)))
  clear hb
  go_wp2
  go_ret
  exact ⟨ret_eq rfl, BW.out⟩























































































































































































































































































































































































































































































































































end Go.Proofs.YtmhbfeglnhangaaDoor
