/-
  The laws' helpers eq*, asked about equal data. Conditions: a bound on the sizes.
-/
import Derived.Test.YtoffelfcmfpooaaTo
namespace Go.Proofs.Ytoffelfcmfpooaa
open Go.RowKit

theorem blk2_0 (w : World) (c : Array Value) (e : Nat) (o1 : Obj) : Blk ((w.alloc (.cells c e)).alloc o1) w.heap.size e c := (blk_new w c e).alloc _
theorem blk2_1 (w : World) (o : Obj) (c : Array Value) (e : Nat) : Blk ((w.alloc o).alloc (.cells c e)) (w.heap.size + 1) e c := by
  have := blk_new (w.alloc o) c e
  simpa using this

set_option maxRecDepth 100000 in
set_option maxHeartbeats 1000000 in
theorem eqStringS_any' (xs : List (List UInt8)) (A A' : Option Addr) (n c c' : Nat) (w : World) (hn : n = xs.length) (hwt : n + (cat strC xs).wt ≤ 4611686018427387904) (h : Rep anyB w (.sl 9 1 n (cat strC xs) .nil) [.slice A n c]) (h' : Rep anyB w (.sl 9 1 n (cat strC xs) .nil) [.slice A' n c']) :
    Calls Try.prog 77 #[.slice A n c, .slice A' n c'] w fun e w' => e = .returned (.bool true) ∧ Below w.heap.size w w' := by
  subst hn
  exact eqStringS_any _ _ xs w (by omega) h.strs h'.strs












































set_option maxRecDepth 100000 in
set_option maxHeartbeats 1000000 in
theorem eqId_any (x : IdD) (cs cs' : List Value) (w : World) (hwt : x.c.wt ≤ 4611686018427387904) (h : Rep anyB w x.c cs) (h' : Rep anyB w x.c cs') :
    Calls Try.prog 43 #[.agg cs.toArray, .agg cs'.toArray] w fun e w' => e = .returned (.bool true) ∧ Below w.heap.size w w' := by
  obtain rfl := IdD.open h
  obtain rfl := IdD.open h'
  have hw0 : x.c.wt = 0 := rfl
  rw [hw0] at hwt
  have HWT := Lib.hid hwt; clear hwt hw0 h h'
  go_enter Try.func43, Try.ntmps43
  go_wp2
  go_ret
  exact ⟨ret_eq rfl, (by repeat' (first | with_reducible exact Below.refl _ _ | with_reducible refine Below.alloc ?_ ?_ _ | (simp; done) | (simp; omega) | omega))⟩


set_option maxRecDepth 100000 in
set_option maxHeartbeats 1000000 in
theorem eqCmd_any (x : CmdD) (cs cs' : List Value) (w : World) (hwt : x.c.wt ≤ 4611686018427387904) (h : Rep anyB w x.c cs) (h' : Rep anyB w x.c cs') :
    Calls Try.prog 44 #[.agg cs.toArray, .agg cs'.toArray] w fun e w' => e = .returned (.bool true) ∧ Below w.heap.size w w' := by
  obtain ⟨A0, k0, rfl, s0⟩ := CmdD.open h
  obtain ⟨A'0, k'0, rfl, t0⟩ := CmdD.open h'
  have hw0 : x.c.wt = (x.set.length + (x.name.length + (x.tag.length + (x.chunks.length + (cat strC x.chunks).wt + 0)))) := rfl
  rw [hw0] at hwt
  have HWT := Lib.hid hwt; clear hwt hw0 h h'
  have S0 := Lib.hid s0; clear s0
  have T0 := Lib.hid t0; clear t0
  go_enter Try.func44, Try.ntmps44
  go_wp2_with fail
  refine (eqStringS_any' x.chunks _ _ _ _ _ _ rfl (by have := HWT.out; omega) (S0.out.below (by repeat' (first | with_reducible exact Below.refl _ _ | with_reducible refine Below.alloc ?_ ?_ _ | (simp; done) | (simp; omega) | omega))) (T0.out.below (by repeat' (first | with_reducible exact Below.refl _ _ | with_reducible refine Below.alloc ?_ ?_ _ | (simp; done) | (simp; omega) | omega)))).mono ?_; rintro e v1 ⟨rfl, hb⟩
  have SB := Lib.hid (Blk.below (blk2_0 _ _ _ _) hb)
  have TB := Lib.hid (Blk.below (blk2_1 _ _ _ _) hb)
  have BW := Lib.hid (show Below w.heap.size w v1 from Below.trans (by repeat' (first | with_reducible exact Below.refl _ _ | with_reducible refine Below.alloc ?_ ?_ _ | (simp; done) | (simp; omega) | omega)) (hb.mono (by first | (simp; done) | (simp; omega) | omega)))
  clear hb
  go_wp2
  go_ret
  exact ⟨ret_eq rfl, BW.out⟩

















set_option maxRecDepth 100000 in
set_option maxHeartbeats 1000000 in
theorem eqIdS_any (xs : List IdD) (A A' : Option Addr) (n c c' : Nat) (w : World) (hn : n = xs.length) (hwt : n + (cat IdD.c xs).wt ≤ 4611686018427387904) (h : Rep anyB w (.sl 36 2 n (cat IdD.c xs) .nil) [.slice A n c]) (h' : Rep anyB w (.sl 36 2 n (cat IdD.c xs) .nil) [.slice A' n c']) :
    Calls Try.prog 24 #[.slice A n c, .slice A' n c'] w fun e w' => e = .returned (.bool true) ∧ Below w.heap.size w w' := by
  have HR := Lib.hid h; clear h
  have HR' := Lib.hid h'; clear h'
  have HN := Lib.hid hn; clear hn
  have HWT := Lib.hid hwt; clear hwt
  have hn1 : n ≤ 4611686018427387904 := by have := HWT.out; omega
  go_enter Try.func24, Try.ntmps24
  go_wp2
  go_loopw [5] (fun ii wr => ∃ (j : Nat), j ≤ n ∧ ii = .int .i64 (j : Int) ∧ Below w.heap.size w wr) (fun ii _ => n - (intOf ii).toNat)
  case atStart => exact ⟨0, Nat.zero_le _, rfl, Below.refl _ _⟩
  case round =>
    obtain ⟨j, hj, rfl, hbel⟩ := hrel
    have H2 := Lib.hid hbel; clear hbel
    by_cases hlt : j < n
    · have hjx : j < xs.length := by have := HN.out; omega
      obtain ⟨ad, ci, rfl, _, _, hrc, hl, hc⟩ := (HR.out.below H2.out).elem IdD.width j hjx HN.out
      obtain ⟨ad', ci', rfl, _, _, hrc', hl', hc'⟩ := (HR'.out.below H2.out).elem IdD.width j hjx HN.out
      have hsl := cat_wt_le (f := IdD.c) (List.getElem_mem hjx)
      generalize xs[j] = x at *
      have HL := Lib.hid hl; clear hl
      have HC := Lib.hid hc; clear hc
      have HRC := Lib.hid hrc; clear hrc
      have HL' := Lib.hid hl'; clear hl'
      have HC' := Lib.hid hc'; clear hc'
      have HRC' := Lib.hid hrc'; clear hrc'
      have HSL := Lib.hid hsl; clear hsl
      go_wp2
      refine wp_region_x 10 [0, 1, 2, 3, 4, 5, 6, 7, 8, 9] (by kernel_rfl) (by kernel_rfl) ?_
      iterate 3 (refine wpX_quiet rfl (by kernel_rfl) rfl ?_; go_wp2; refine ⟨rfl, ?_⟩)
      refine wpX_quiet rfl (by kernel_rfl) rfl ?_; go_wp2_with (first | (refine wpList_load_row _ (ad.add (j * 2)) rfl ci agg_Id HL.out HC.out ?_) | fail); refine ⟨rfl, ?_⟩
      iterate 3 (refine wpX_quiet rfl (by kernel_rfl) rfl ?_; go_wp2; refine ⟨rfl, ?_⟩)
      refine wpX_quiet rfl (by kernel_rfl) rfl ?_; go_wp2_with (first | (refine wpList_load_row _ (ad'.add (j * 2)) rfl ci' agg_Id HL'.out HC'.out ?_) | fail); refine ⟨rfl, ?_⟩
      refine wpX_actor rfl (by kernel_rfl) ?_
      go_wp2_with fail
      refine (eqId_any x ci ci' _ (by have := HWT.out; have := HSL.out; omega) HRC.out.drew HRC'.out.drew).mono ?_; rintro e w1 ⟨rfl, hb⟩
      have B1 := Lib.hid hb; clear hb
      go_wp2
      refine ⟨Ext.of_below B1.out, ?_⟩
      iterate 1 (refine wpX_quiet rfl (by kernel_rfl) rfl ?_; go_wp2; refine ⟨rfl, ?_⟩)
      refine wpX_nil ?_
      simp only [List.drop_succ_cons, List.drop_zero]
      go_wp2
      exact ⟨⟨j + 1, by omega, by go_num, H2.out.drew.trans (B1.out.mono H2.out.size)⟩, by simp only [intOf]; omega⟩
    · have hjn : j = n := by omega
      subst hjn
      go_wp2
      go_ret
      exact ⟨ret_eq rfl, H2.out⟩













































































































































































set_option maxRecDepth 100000 in
set_option maxHeartbeats 1000000 in
theorem eqInst_any (x : InstD) (cs cs' : List Value) (w : World) (hwt : x.c.wt ≤ 4611686018427387904) (h : Rep anyB w x.c cs) (h' : Rep anyB w x.c cs') :
    Calls Try.prog 13 #[.agg cs.toArray, .agg cs'.toArray] w fun e w' => e = .returned (.bool true) ∧ Below w.heap.size w w' := by
  obtain ⟨A0, k0, A1, k1, rfl, s0, s1⟩ := InstD.open h
  obtain ⟨A'0, k'0, A'1, k'1, rfl, t0, t1⟩ := InstD.open h'
  have hw0 : x.c.wt = (x.cmd.set.length + (x.cmd.name.length + (x.cmd.tag.length + (x.cmd.chunks.length + (cat strC x.cmd.chunks).wt + (x.deps.length + (cat IdD.c x.deps).wt + 0))))) := rfl
  rw [hw0] at hwt
  have HWT := Lib.hid hwt; clear hwt hw0 h h'
  have S0 := Lib.hid s0; clear s0
  have T0 := Lib.hid t0; clear t0
  have S1 := Lib.hid s1; clear s1
  have T1 := Lib.hid t1; clear t1
  go_enter Try.func13, Try.ntmps13
  go_wp2_with fail
  refine (eqId_any x.id _ _ _ (by have := HWT.out; have e0 : x.id.c.wt = 0 := rfl; omega) (IdD.shut) (IdD.shut)).mono ?_; rintro e v1 ⟨rfl, hb⟩
  have SB := Lib.hid (Blk.below (blk2_0 _ _ _ _) hb)
  have TB := Lib.hid (Blk.below (blk2_1 _ _ _ _) hb)
  have BW := Lib.hid (show Below w.heap.size w v1 from Below.trans (by repeat' (first | with_reducible exact Below.refl _ _ | with_reducible refine Below.alloc ?_ ?_ _ | (simp; done) | (simp; omega) | omega)) (hb.mono (by first | (simp; done) | (simp; omega) | omega)))
  clear hb
  have hs2 : World.cell? v1 ⟨w.heap.size, 2, none⟩ = some (.int .i64 x.bal) := blk_cell0 (L := [.int .i64 x.id.rep, .int .i64 x.id.slot, .int .i64 x.bal, .int .i64 x.vbal, .int .i64 x.status, .int .i64 x.cmd.kind, .int .i64 x.cmd.client, .int .i64 x.cmd.no, .string (bs x.cmd.set), .string (bs x.cmd.name), .string (bs x.cmd.tag), .int .i64 x.cmd.n, .slice A0 x.cmd.chunks.length k0, .int .i64 x.seq, .slice A1 x.deps.length k1, .bool x.same]) SB.out 2 rfl
  have ht2 : World.cell? v1 ⟨w.heap.size + 1, 2, none⟩ = some (.int .i64 x.bal) := blk_cell0 (L := [.int .i64 x.id.rep, .int .i64 x.id.slot, .int .i64 x.bal, .int .i64 x.vbal, .int .i64 x.status, .int .i64 x.cmd.kind, .int .i64 x.cmd.client, .int .i64 x.cmd.no, .string (bs x.cmd.set), .string (bs x.cmd.name), .string (bs x.cmd.tag), .int .i64 x.cmd.n, .slice A'0 x.cmd.chunks.length k'0, .int .i64 x.seq, .slice A'1 x.deps.length k'1, .bool x.same]) TB.out 2 rfl
  have hs3 : World.cell? v1 ⟨w.heap.size, 3, none⟩ = some (.int .i64 x.vbal) := blk_cell0 (L := [.int .i64 x.id.rep, .int .i64 x.id.slot, .int .i64 x.bal, .int .i64 x.vbal, .int .i64 x.status, .int .i64 x.cmd.kind, .int .i64 x.cmd.client, .int .i64 x.cmd.no, .string (bs x.cmd.set), .string (bs x.cmd.name), .string (bs x.cmd.tag), .int .i64 x.cmd.n, .slice A0 x.cmd.chunks.length k0, .int .i64 x.seq, .slice A1 x.deps.length k1, .bool x.same]) SB.out 3 rfl
  have ht3 : World.cell? v1 ⟨w.heap.size + 1, 3, none⟩ = some (.int .i64 x.vbal) := blk_cell0 (L := [.int .i64 x.id.rep, .int .i64 x.id.slot, .int .i64 x.bal, .int .i64 x.vbal, .int .i64 x.status, .int .i64 x.cmd.kind, .int .i64 x.cmd.client, .int .i64 x.cmd.no, .string (bs x.cmd.set), .string (bs x.cmd.name), .string (bs x.cmd.tag), .int .i64 x.cmd.n, .slice A'0 x.cmd.chunks.length k'0, .int .i64 x.seq, .slice A'1 x.deps.length k'1, .bool x.same]) TB.out 3 rfl
  have hs4 : World.cell? v1 ⟨w.heap.size, 4, none⟩ = some (.int .i64 x.status) := blk_cell0 (L := [.int .i64 x.id.rep, .int .i64 x.id.slot, .int .i64 x.bal, .int .i64 x.vbal, .int .i64 x.status, .int .i64 x.cmd.kind, .int .i64 x.cmd.client, .int .i64 x.cmd.no, .string (bs x.cmd.set), .string (bs x.cmd.name), .string (bs x.cmd.tag), .int .i64 x.cmd.n, .slice A0 x.cmd.chunks.length k0, .int .i64 x.seq, .slice A1 x.deps.length k1, .bool x.same]) SB.out 4 rfl
  have ht4 : World.cell? v1 ⟨w.heap.size + 1, 4, none⟩ = some (.int .i64 x.status) := blk_cell0 (L := [.int .i64 x.id.rep, .int .i64 x.id.slot, .int .i64 x.bal, .int .i64 x.vbal, .int .i64 x.status, .int .i64 x.cmd.kind, .int .i64 x.cmd.client, .int .i64 x.cmd.no, .string (bs x.cmd.set), .string (bs x.cmd.name), .string (bs x.cmd.tag), .int .i64 x.cmd.n, .slice A'0 x.cmd.chunks.length k'0, .int .i64 x.seq, .slice A'1 x.deps.length k'1, .bool x.same]) TB.out 4 rfl
  have hs5 : World.cell? v1 ⟨w.heap.size, 5, none⟩ = some (.int .i64 x.cmd.kind) := blk_cell0 (L := [.int .i64 x.id.rep, .int .i64 x.id.slot, .int .i64 x.bal, .int .i64 x.vbal, .int .i64 x.status, .int .i64 x.cmd.kind, .int .i64 x.cmd.client, .int .i64 x.cmd.no, .string (bs x.cmd.set), .string (bs x.cmd.name), .string (bs x.cmd.tag), .int .i64 x.cmd.n, .slice A0 x.cmd.chunks.length k0, .int .i64 x.seq, .slice A1 x.deps.length k1, .bool x.same]) SB.out 5 rfl
  have ht5 : World.cell? v1 ⟨w.heap.size + 1, 5, none⟩ = some (.int .i64 x.cmd.kind) := blk_cell0 (L := [.int .i64 x.id.rep, .int .i64 x.id.slot, .int .i64 x.bal, .int .i64 x.vbal, .int .i64 x.status, .int .i64 x.cmd.kind, .int .i64 x.cmd.client, .int .i64 x.cmd.no, .string (bs x.cmd.set), .string (bs x.cmd.name), .string (bs x.cmd.tag), .int .i64 x.cmd.n, .slice A'0 x.cmd.chunks.length k'0, .int .i64 x.seq, .slice A'1 x.deps.length k'1, .bool x.same]) TB.out 5 rfl
  have hs6 : World.cell? v1 ⟨w.heap.size, 6, none⟩ = some (.int .i64 x.cmd.client) := blk_cell0 (L := [.int .i64 x.id.rep, .int .i64 x.id.slot, .int .i64 x.bal, .int .i64 x.vbal, .int .i64 x.status, .int .i64 x.cmd.kind, .int .i64 x.cmd.client, .int .i64 x.cmd.no, .string (bs x.cmd.set), .string (bs x.cmd.name), .string (bs x.cmd.tag), .int .i64 x.cmd.n, .slice A0 x.cmd.chunks.length k0, .int .i64 x.seq, .slice A1 x.deps.length k1, .bool x.same]) SB.out 6 rfl
  have ht6 : World.cell? v1 ⟨w.heap.size + 1, 6, none⟩ = some (.int .i64 x.cmd.client) := blk_cell0 (L := [.int .i64 x.id.rep, .int .i64 x.id.slot, .int .i64 x.bal, .int .i64 x.vbal, .int .i64 x.status, .int .i64 x.cmd.kind, .int .i64 x.cmd.client, .int .i64 x.cmd.no, .string (bs x.cmd.set), .string (bs x.cmd.name), .string (bs x.cmd.tag), .int .i64 x.cmd.n, .slice A'0 x.cmd.chunks.length k'0, .int .i64 x.seq, .slice A'1 x.deps.length k'1, .bool x.same]) TB.out 6 rfl
  have hs7 : World.cell? v1 ⟨w.heap.size, 7, none⟩ = some (.int .i64 x.cmd.no) := blk_cell0 (L := [.int .i64 x.id.rep, .int .i64 x.id.slot, .int .i64 x.bal, .int .i64 x.vbal, .int .i64 x.status, .int .i64 x.cmd.kind, .int .i64 x.cmd.client, .int .i64 x.cmd.no, .string (bs x.cmd.set), .string (bs x.cmd.name), .string (bs x.cmd.tag), .int .i64 x.cmd.n, .slice A0 x.cmd.chunks.length k0, .int .i64 x.seq, .slice A1 x.deps.length k1, .bool x.same]) SB.out 7 rfl
  have ht7 : World.cell? v1 ⟨w.heap.size + 1, 7, none⟩ = some (.int .i64 x.cmd.no) := blk_cell0 (L := [.int .i64 x.id.rep, .int .i64 x.id.slot, .int .i64 x.bal, .int .i64 x.vbal, .int .i64 x.status, .int .i64 x.cmd.kind, .int .i64 x.cmd.client, .int .i64 x.cmd.no, .string (bs x.cmd.set), .string (bs x.cmd.name), .string (bs x.cmd.tag), .int .i64 x.cmd.n, .slice A'0 x.cmd.chunks.length k'0, .int .i64 x.seq, .slice A'1 x.deps.length k'1, .bool x.same]) TB.out 7 rfl
  have hs8 : World.cell? v1 ⟨w.heap.size, 8, none⟩ = some (.string (bs x.cmd.set)) := blk_cell0 (L := [.int .i64 x.id.rep, .int .i64 x.id.slot, .int .i64 x.bal, .int .i64 x.vbal, .int .i64 x.status, .int .i64 x.cmd.kind, .int .i64 x.cmd.client, .int .i64 x.cmd.no, .string (bs x.cmd.set), .string (bs x.cmd.name), .string (bs x.cmd.tag), .int .i64 x.cmd.n, .slice A0 x.cmd.chunks.length k0, .int .i64 x.seq, .slice A1 x.deps.length k1, .bool x.same]) SB.out 8 rfl
  have ht8 : World.cell? v1 ⟨w.heap.size + 1, 8, none⟩ = some (.string (bs x.cmd.set)) := blk_cell0 (L := [.int .i64 x.id.rep, .int .i64 x.id.slot, .int .i64 x.bal, .int .i64 x.vbal, .int .i64 x.status, .int .i64 x.cmd.kind, .int .i64 x.cmd.client, .int .i64 x.cmd.no, .string (bs x.cmd.set), .string (bs x.cmd.name), .string (bs x.cmd.tag), .int .i64 x.cmd.n, .slice A'0 x.cmd.chunks.length k'0, .int .i64 x.seq, .slice A'1 x.deps.length k'1, .bool x.same]) TB.out 8 rfl
  have hs9 : World.cell? v1 ⟨w.heap.size, 9, none⟩ = some (.string (bs x.cmd.name)) := blk_cell0 (L := [.int .i64 x.id.rep, .int .i64 x.id.slot, .int .i64 x.bal, .int .i64 x.vbal, .int .i64 x.status, .int .i64 x.cmd.kind, .int .i64 x.cmd.client, .int .i64 x.cmd.no, .string (bs x.cmd.set), .string (bs x.cmd.name), .string (bs x.cmd.tag), .int .i64 x.cmd.n, .slice A0 x.cmd.chunks.length k0, .int .i64 x.seq, .slice A1 x.deps.length k1, .bool x.same]) SB.out 9 rfl
  have ht9 : World.cell? v1 ⟨w.heap.size + 1, 9, none⟩ = some (.string (bs x.cmd.name)) := blk_cell0 (L := [.int .i64 x.id.rep, .int .i64 x.id.slot, .int .i64 x.bal, .int .i64 x.vbal, .int .i64 x.status, .int .i64 x.cmd.kind, .int .i64 x.cmd.client, .int .i64 x.cmd.no, .string (bs x.cmd.set), .string (bs x.cmd.name), .string (bs x.cmd.tag), .int .i64 x.cmd.n, .slice A'0 x.cmd.chunks.length k'0, .int .i64 x.seq, .slice A'1 x.deps.length k'1, .bool x.same]) TB.out 9 rfl
  have hs10 : World.cell? v1 ⟨w.heap.size, 10, none⟩ = some (.string (bs x.cmd.tag)) := blk_cell0 (L := [.int .i64 x.id.rep, .int .i64 x.id.slot, .int .i64 x.bal, .int .i64 x.vbal, .int .i64 x.status, .int .i64 x.cmd.kind, .int .i64 x.cmd.client, .int .i64 x.cmd.no, .string (bs x.cmd.set), .string (bs x.cmd.name), .string (bs x.cmd.tag), .int .i64 x.cmd.n, .slice A0 x.cmd.chunks.length k0, .int .i64 x.seq, .slice A1 x.deps.length k1, .bool x.same]) SB.out 10 rfl
  have ht10 : World.cell? v1 ⟨w.heap.size + 1, 10, none⟩ = some (.string (bs x.cmd.tag)) := blk_cell0 (L := [.int .i64 x.id.rep, .int .i64 x.id.slot, .int .i64 x.bal, .int .i64 x.vbal, .int .i64 x.status, .int .i64 x.cmd.kind, .int .i64 x.cmd.client, .int .i64 x.cmd.no, .string (bs x.cmd.set), .string (bs x.cmd.name), .string (bs x.cmd.tag), .int .i64 x.cmd.n, .slice A'0 x.cmd.chunks.length k'0, .int .i64 x.seq, .slice A'1 x.deps.length k'1, .bool x.same]) TB.out 10 rfl
  have hs11 : World.cell? v1 ⟨w.heap.size, 11, none⟩ = some (.int .i64 x.cmd.n) := blk_cell0 (L := [.int .i64 x.id.rep, .int .i64 x.id.slot, .int .i64 x.bal, .int .i64 x.vbal, .int .i64 x.status, .int .i64 x.cmd.kind, .int .i64 x.cmd.client, .int .i64 x.cmd.no, .string (bs x.cmd.set), .string (bs x.cmd.name), .string (bs x.cmd.tag), .int .i64 x.cmd.n, .slice A0 x.cmd.chunks.length k0, .int .i64 x.seq, .slice A1 x.deps.length k1, .bool x.same]) SB.out 11 rfl
  have ht11 : World.cell? v1 ⟨w.heap.size + 1, 11, none⟩ = some (.int .i64 x.cmd.n) := blk_cell0 (L := [.int .i64 x.id.rep, .int .i64 x.id.slot, .int .i64 x.bal, .int .i64 x.vbal, .int .i64 x.status, .int .i64 x.cmd.kind, .int .i64 x.cmd.client, .int .i64 x.cmd.no, .string (bs x.cmd.set), .string (bs x.cmd.name), .string (bs x.cmd.tag), .int .i64 x.cmd.n, .slice A'0 x.cmd.chunks.length k'0, .int .i64 x.seq, .slice A'1 x.deps.length k'1, .bool x.same]) TB.out 11 rfl
  have hs12 : World.cell? v1 ⟨w.heap.size, 12, none⟩ = some (.slice A0 x.cmd.chunks.length k0) := blk_cell0 (L := [.int .i64 x.id.rep, .int .i64 x.id.slot, .int .i64 x.bal, .int .i64 x.vbal, .int .i64 x.status, .int .i64 x.cmd.kind, .int .i64 x.cmd.client, .int .i64 x.cmd.no, .string (bs x.cmd.set), .string (bs x.cmd.name), .string (bs x.cmd.tag), .int .i64 x.cmd.n, .slice A0 x.cmd.chunks.length k0, .int .i64 x.seq, .slice A1 x.deps.length k1, .bool x.same]) SB.out 12 rfl
  have ht12 : World.cell? v1 ⟨w.heap.size + 1, 12, none⟩ = some (.slice A'0 x.cmd.chunks.length k'0) := blk_cell0 (L := [.int .i64 x.id.rep, .int .i64 x.id.slot, .int .i64 x.bal, .int .i64 x.vbal, .int .i64 x.status, .int .i64 x.cmd.kind, .int .i64 x.cmd.client, .int .i64 x.cmd.no, .string (bs x.cmd.set), .string (bs x.cmd.name), .string (bs x.cmd.tag), .int .i64 x.cmd.n, .slice A'0 x.cmd.chunks.length k'0, .int .i64 x.seq, .slice A'1 x.deps.length k'1, .bool x.same]) TB.out 12 rfl
  go_wp2_with fail
  refine (eqCmd_any x.cmd _ _ _ (by have := HWT.out; have e0 : x.cmd.c.wt = (x.cmd.set.length + (x.cmd.name.length + (x.cmd.tag.length + (x.cmd.chunks.length + (cat strC x.cmd.chunks).wt + 0)))) := rfl; omega) (CmdD.shut (S0.out.below BW.out)) (CmdD.shut (T0.out.below BW.out))).mono ?_; rintro e v2 ⟨rfl, hb⟩
  have SB' := Lib.hid (SB.out.below hb); clear SB
  have SB := Lib.hid SB'.out; clear SB'
  have TB' := Lib.hid (TB.out.below hb); clear TB
  have TB := Lib.hid TB'.out; clear TB'
  have BW' := Lib.hid (show Below w.heap.size w v2 from BW.out.trans (hb.mono BW.out.size)); clear BW
  have BW := Lib.hid BW'.out; clear BW'
  clear hb hs2 ht2 hs3 ht3 hs4 ht4 hs5 ht5 hs6 ht6 hs7 ht7 hs8 ht8 hs9 ht9 hs10 ht10 hs11 ht11 hs12 ht12
  have hs13 : World.cell? v2 ⟨w.heap.size, 13, none⟩ = some (.int .i64 x.seq) := blk_cell0 (L := [.int .i64 x.id.rep, .int .i64 x.id.slot, .int .i64 x.bal, .int .i64 x.vbal, .int .i64 x.status, .int .i64 x.cmd.kind, .int .i64 x.cmd.client, .int .i64 x.cmd.no, .string (bs x.cmd.set), .string (bs x.cmd.name), .string (bs x.cmd.tag), .int .i64 x.cmd.n, .slice A0 x.cmd.chunks.length k0, .int .i64 x.seq, .slice A1 x.deps.length k1, .bool x.same]) SB.out 13 rfl
  have ht13 : World.cell? v2 ⟨w.heap.size + 1, 13, none⟩ = some (.int .i64 x.seq) := blk_cell0 (L := [.int .i64 x.id.rep, .int .i64 x.id.slot, .int .i64 x.bal, .int .i64 x.vbal, .int .i64 x.status, .int .i64 x.cmd.kind, .int .i64 x.cmd.client, .int .i64 x.cmd.no, .string (bs x.cmd.set), .string (bs x.cmd.name), .string (bs x.cmd.tag), .int .i64 x.cmd.n, .slice A'0 x.cmd.chunks.length k'0, .int .i64 x.seq, .slice A'1 x.deps.length k'1, .bool x.same]) TB.out 13 rfl
  have hs14 : World.cell? v2 ⟨w.heap.size, 14, none⟩ = some (.slice A1 x.deps.length k1) := blk_cell0 (L := [.int .i64 x.id.rep, .int .i64 x.id.slot, .int .i64 x.bal, .int .i64 x.vbal, .int .i64 x.status, .int .i64 x.cmd.kind, .int .i64 x.cmd.client, .int .i64 x.cmd.no, .string (bs x.cmd.set), .string (bs x.cmd.name), .string (bs x.cmd.tag), .int .i64 x.cmd.n, .slice A0 x.cmd.chunks.length k0, .int .i64 x.seq, .slice A1 x.deps.length k1, .bool x.same]) SB.out 14 rfl
  have ht14 : World.cell? v2 ⟨w.heap.size + 1, 14, none⟩ = some (.slice A'1 x.deps.length k'1) := blk_cell0 (L := [.int .i64 x.id.rep, .int .i64 x.id.slot, .int .i64 x.bal, .int .i64 x.vbal, .int .i64 x.status, .int .i64 x.cmd.kind, .int .i64 x.cmd.client, .int .i64 x.cmd.no, .string (bs x.cmd.set), .string (bs x.cmd.name), .string (bs x.cmd.tag), .int .i64 x.cmd.n, .slice A'0 x.cmd.chunks.length k'0, .int .i64 x.seq, .slice A'1 x.deps.length k'1, .bool x.same]) TB.out 14 rfl
  go_wp2_with fail
  refine (eqIdS_any x.deps _ _ _ _ _ _ rfl (by have := HWT.out; omega) (S1.out.below BW.out) (T1.out.below BW.out)).mono ?_; rintro e v3 ⟨rfl, hb⟩
  have SB' := Lib.hid (SB.out.below hb); clear SB
  have SB := Lib.hid SB'.out; clear SB'
  have TB' := Lib.hid (TB.out.below hb); clear TB
  have TB := Lib.hid TB'.out; clear TB'
  have BW' := Lib.hid (show Below w.heap.size w v3 from BW.out.trans (hb.mono BW.out.size)); clear BW
  have BW := Lib.hid BW'.out; clear BW'
  clear hb hs13 ht13 hs14 ht14
  have hs15 : World.cell? v3 ⟨w.heap.size, 15, none⟩ = some (.bool x.same) := blk_cell0 (L := [.int .i64 x.id.rep, .int .i64 x.id.slot, .int .i64 x.bal, .int .i64 x.vbal, .int .i64 x.status, .int .i64 x.cmd.kind, .int .i64 x.cmd.client, .int .i64 x.cmd.no, .string (bs x.cmd.set), .string (bs x.cmd.name), .string (bs x.cmd.tag), .int .i64 x.cmd.n, .slice A0 x.cmd.chunks.length k0, .int .i64 x.seq, .slice A1 x.deps.length k1, .bool x.same]) SB.out 15 rfl
  have ht15 : World.cell? v3 ⟨w.heap.size + 1, 15, none⟩ = some (.bool x.same) := blk_cell0 (L := [.int .i64 x.id.rep, .int .i64 x.id.slot, .int .i64 x.bal, .int .i64 x.vbal, .int .i64 x.status, .int .i64 x.cmd.kind, .int .i64 x.cmd.client, .int .i64 x.cmd.no, .string (bs x.cmd.set), .string (bs x.cmd.name), .string (bs x.cmd.tag), .int .i64 x.cmd.n, .slice A'0 x.cmd.chunks.length k'0, .int .i64 x.seq, .slice A'1 x.deps.length k'1, .bool x.same]) TB.out 15 rfl
  go_wp2
  go_ret
  exact ⟨ret_eq rfl, BW.out⟩


set_option maxRecDepth 100000 in
set_option maxHeartbeats 1000000 in
theorem eqInstS_any (xs : List InstD) (A A' : Option Addr) (n c c' : Nat) (w : World) (hn : n = xs.length) (hwt : n + (cat InstD.c xs).wt ≤ 4611686018427387904) (h : Rep anyB w (.sl 40 16 n (cat InstD.c xs) .nil) [.slice A n c]) (h' : Rep anyB w (.sl 40 16 n (cat InstD.c xs) .nil) [.slice A' n c']) :
    Calls Try.prog 12 #[.slice A n c, .slice A' n c'] w fun e w' => e = .returned (.bool true) ∧ Below w.heap.size w w' := by
  have HR := Lib.hid h; clear h
  have HR' := Lib.hid h'; clear h'
  have HN := Lib.hid hn; clear hn
  have HWT := Lib.hid hwt; clear hwt
  have hn1 : n ≤ 4611686018427387904 := by have := HWT.out; omega
  go_enter Try.func12, Try.ntmps12
  go_wp2
  go_loopw [5] (fun ii wr => ∃ (j : Nat), j ≤ n ∧ ii = .int .i64 (j : Int) ∧ Below w.heap.size w wr) (fun ii _ => n - (intOf ii).toNat)
  case atStart => exact ⟨0, Nat.zero_le _, rfl, Below.refl _ _⟩
  case round =>
    obtain ⟨j, hj, rfl, hbel⟩ := hrel
    have H2 := Lib.hid hbel; clear hbel
    by_cases hlt : j < n
    · have hjx : j < xs.length := by have := HN.out; omega
      obtain ⟨ad, ci, rfl, _, _, hrc, hl, hc⟩ := (HR.out.below H2.out).elem InstD.width j hjx HN.out
      obtain ⟨ad', ci', rfl, _, _, hrc', hl', hc'⟩ := (HR'.out.below H2.out).elem InstD.width j hjx HN.out
      have hsl := cat_wt_le (f := InstD.c) (List.getElem_mem hjx)
      generalize xs[j] = x at *
      have HL := Lib.hid hl; clear hl
      have HC := Lib.hid hc; clear hc
      have HRC := Lib.hid hrc; clear hrc
      have HL' := Lib.hid hl'; clear hl'
      have HC' := Lib.hid hc'; clear hc'
      have HRC' := Lib.hid hrc'; clear hrc'
      have HSL := Lib.hid hsl; clear hsl
      go_wp2
      refine wp_region_x 10 [0, 1, 2, 3, 4, 5, 6, 7, 8, 9] (by kernel_rfl) (by kernel_rfl) ?_
      iterate 3 (refine wpX_quiet rfl (by kernel_rfl) rfl ?_; go_wp2; refine ⟨rfl, ?_⟩)
      refine wpX_quiet rfl (by kernel_rfl) rfl ?_; go_wp2_with (first | (refine wpList_load_row _ (ad.add (j * 16)) rfl ci agg_Inst HL.out HC.out ?_) | fail); refine ⟨rfl, ?_⟩
      iterate 3 (refine wpX_quiet rfl (by kernel_rfl) rfl ?_; go_wp2; refine ⟨rfl, ?_⟩)
      refine wpX_quiet rfl (by kernel_rfl) rfl ?_; go_wp2_with (first | (refine wpList_load_row _ (ad'.add (j * 16)) rfl ci' agg_Inst HL'.out HC'.out ?_) | fail); refine ⟨rfl, ?_⟩
      refine wpX_actor rfl (by kernel_rfl) ?_
      go_wp2_with fail
      refine (eqInst_any x ci ci' _ (by have := HWT.out; have := HSL.out; omega) HRC.out.drew HRC'.out.drew).mono ?_; rintro e w1 ⟨rfl, hb⟩
      have B1 := Lib.hid hb; clear hb
      go_wp2
      refine ⟨Ext.of_below B1.out, ?_⟩
      iterate 1 (refine wpX_quiet rfl (by kernel_rfl) rfl ?_; go_wp2; refine ⟨rfl, ?_⟩)
      refine wpX_nil ?_
      simp only [List.drop_succ_cons, List.drop_zero]
      go_wp2
      exact ⟨⟨j + 1, by omega, by go_num, H2.out.drew.trans (B1.out.mono H2.out.size)⟩, by simp only [intOf]; omega⟩
    · have hjn : j = n := by omega
      subst hjn
      go_wp2
      go_ret
      exact ⟨ret_eq rfl, H2.out⟩



























































































































































































































































































































































































































end Go.Proofs.Ytoffelfcmfpooaa
