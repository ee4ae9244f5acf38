/-
  Messages and instances: right ones, same ones. Conditions: bounds on the sizes.
-/
import Derived.Test.YtbdblfpepnoafaaCmdOk
import Derived.Test.YtbdblfpepnoafaaIdsB
import Derived.Test.YtbdblfpepnoafaaENode
namespace Go.Proofs.Ytbdblfpepnoafaa
open Go.RowKit

noncomputable def emsgOkB (m : EMsgD) : Bool := inB 1 7 m.kind && (inB 0 2 m.frm && (inB 0 2 m.to && ((m.frm != m.to) && (idOkB m.id && (inB 0 600 m.bal && (cmdOkB m.cmd && (inB 0 60 m.seq && (idsOkB m.deps && (!hasB m.deps m.id && (inB 0 3 m.status && inB (-1) 600 m.vbal))))))))))
noncomputable def emsgSame (x y : EMsgD) : Bool := (x.kind == y.kind) && ((x.frm == y.frm) && ((x.to == y.to) && ((x.id.rep == y.id.rep) && ((x.id.slot == y.id.slot) && ((x.bal == y.bal) && (cmdSame x.cmd y.cmd && ((x.seq == y.seq) && (decide (x.deps = y.deps) && ((x.status == y.status) && ((x.vbal == y.vbal) && (x.same == y.same)))))))))))

noncomputable def instOkB (x : InstD) : Bool := idOkB x.id && (inB (-1) 600 x.bal && (inB (-1) x.bal x.vbal && (inB 0 3 x.status && (cmdOkB x.cmd && (inB 0 60 x.seq && (idsOkB x.deps && (!hasB x.deps x.id && (x.status != 0 || (x.vbal == -1 && (x.cmd.kind == 0 && (x.seq == 0 && ((x.deps.length : Int) == 0 && !x.same))))))))))))

set_option maxRecDepth 100000 in
set_option maxHeartbeats 1000000 in
theorem areDeps_any (xs : List IdD) (x : IdD) (A : Option Addr) (n c : Nat) (cs : List Value) (w : World) (hn : n = xs.length) (hwt : n + (cat IdD.c xs).wt ≤ 1048576) (h : Rep anyB w (.sl 32 2 n (cat IdD.c xs) .nil) [.slice A n c]) (h' : Rep anyB w x.c cs) :
    Calls Try.prog 77 #[.slice A n c, .agg cs.toArray] w fun e w' => e = .returned (.bool (idsOkB xs && !hasB xs x)) ∧ Below w.heap.size w w' := by
  have hr := h'
  obtain rfl := IdD.open h'
  have H := Lib.hid h; clear h
  have HR := Lib.hid hr; clear hr h'
  have HN := Lib.hid hn; clear hn
  have hn1 : n ≤ 1048576 := by omega
  obtain ⟨a, b⟩ := x
  simp only [] at HR ⊢
  go_enter Try.func77, Try.ntmps77
  go_wp2_with fail
  refine (iIdsOk_any xs A n c _ HN.out hwt (H.out.below (by repeat' (first | with_reducible exact Below.refl _ _ | with_reducible exact BW.out | with_reducible refine Below.setCell ?_ ?_ _ | with_reducible refine Below.alloc ?_ ?_ _ | with_reducible refine Below.drew ?_ | (simp; done) | (simp; omega) | omega)))).mono ?_; rintro e w1 ⟨rfl, hb⟩
  have SB := Lib.hid (Blk.below (blk_new _ _ _) hb)
  have BW := Lib.hid (show Below w.heap.size w w1 from Below.trans (by repeat' (first | with_reducible exact Below.refl _ _ | with_reducible exact BW.out | with_reducible refine Below.setCell ?_ ?_ _ | with_reducible refine Below.alloc ?_ ?_ _ | with_reducible refine Below.drew ?_ | (simp; done) | (simp; omega) | omega)) (hb.mono (by first | (simp; done) | (simp; omega) | omega))); clear hb
  cases h1 : idsOkB xs
  case false =>
    go_wp2
    go_ret
    exact ⟨ret_eq (congrArg Value.bool (by rw [h1]; rfl)), BW.out⟩
  case true =>
    have hs0 : World.cell? w1 ⟨w.heap.size, 0, none⟩ = some (.int .i64 a) := blk_cell0 (L := [.int .i64 a, .int .i64 b]) SB.out 0 rfl
    have hs1 : World.cell? w1 ⟨w.heap.size, 1, none⟩ = some (.int .i64 b) := blk_cell0 (L := [.int .i64 a, .int .i64 b]) SB.out 1 rfl
    go_wp2_with (first | (refine wpList_load_row_g _ (by first | rfl | kernel_rfl) ⟨w.heap.size, 0, none⟩ rfl [.int .i64 a, .int .i64 b] agg_Id rfl (blk_cells SB.out) ?_) | fail)
    refine (containsId_any xs ⟨a, b⟩ A n c _ _ HN.out hn1 (H.out.below BW.out) (HR.out.below BW.out)).mono ?_; rintro e w2 ⟨rfl, hb⟩
    have X := Lib.hid (show Below w.heap.size w w2 from BW.out.trans (hb.mono BW.out.size)); clear BW hb
    have BW := Lib.hid X.out; clear X
    go_wp2
    go_ret
    exact ⟨ret_eq (congrArg Value.bool (by rw [h1]; rfl)), BW.out⟩

end Go.Proofs.Ytbdblfpepnoafaa
