/-
  A new log: impl.LogNew and spec.LogNew. No condition.
-/
import Derived.Test.YtifdkjddiohahaaEq
namespace Go.Proofs.Ytifdkjddiohahaa
open Go.RowKit

def fLogNew : LogD := ⟨[⟨1, []⟩], 1, 0⟩
theorem bLogNew : fLogNew.c.wt ≤ 4611686018427387 ∧ fLogNew.cntT ≤ 4611686018427387 := ⟨by decide, by decide⟩
theorem logNew_mine (w : World) : Mine ((w.alloc (.cells #[.slice (some ⟨w.heap.size + 1, 0, none⟩) 1 1, .int .i64 1, .int .i64 0] 46)).alloc (.cells #[.int .i64 1, .string { data := #[] }] 90)) w.heap.size fLogNew.c [.slice (some ⟨w.heap.size + 1, 0, none⟩) 1 1, .int .i64 1, .int .i64 0] := by
  refine ⟨[w.heap.size + 1], by simp, ?_⟩
  refine LogD.shutO (x := fLogNew) (v0 := .slice (some ⟨w.heap.size + 1, 0, none⟩) 1 1) (F0 := [w.heap.size + 1]) ?_
  refine Own.sl1.2 ⟨[.int .i64 1, .string (bs [])], [], rfl, rfl, ?_, ?_⟩
  · exact blk_own (Nat.le_succ _) (blk2_1 w _ _ _) (by decide) rfl rfl
  · exact Own.app.2 ⟨_, [], [], [], rfl, rfl, SegD.shutO (x := ⟨1, []⟩), Own.nil.2 ⟨rfl, rfl⟩⟩

set_option maxRecDepth 100000 in
set_option maxHeartbeats 1000000 in
theorem sLogNew_any (w : World) :
    Calls Try.prog 35 #[] w fun e w' => ∃ cs, e = .returned (.agg cs.toArray) ∧ Mine w' w.heap.size fLogNew.c cs ∧ Below w.heap.size w w' := by
  go_enter Try.func35, Try.ntmps35
  go_wp2
  exact bodyPost_cell rfl ⟨w.heap.size, 0, none⟩ rfl [.slice (some ⟨w.heap.size + 1, 0, none⟩) 1 1, .int .i64 1, .int .i64 0] agg_Log rfl (blk_cells (blk2_0 _ _ _ _)) rfl ⟨_, rfl, logNew_mine w, (by repeat' (first | with_reducible exact Below.refl _ _ | with_reducible exact BW.out | with_reducible refine Below.setCell ?_ ?_ _ | with_reducible refine Below.alloc ?_ ?_ _ | with_reducible refine Below.drew ?_ | (simp; done) | (simp; omega) | omega))⟩

set_option maxRecDepth 100000 in
set_option maxHeartbeats 1000000 in
theorem iLogNew_any (w : World) :
    Calls Try.prog 36 #[] w fun e w' => ∃ cs, e = .returned (.agg cs.toArray) ∧ Mine w' w.heap.size fLogNew.c cs ∧ Below w.heap.size w w' := by
  go_enter Try.func36, Try.ntmps36
  go_wp2
  exact bodyPost_cell rfl ⟨w.heap.size, 0, none⟩ rfl [.slice (some ⟨w.heap.size + 1, 0, none⟩) 1 1, .int .i64 1, .int .i64 0] agg_Log rfl (blk_cells (blk2_0 _ _ _ _)) rfl ⟨_, rfl, logNew_mine w, (by repeat' (first | with_reducible exact Below.refl _ _ | with_reducible exact BW.out | with_reducible refine Below.setCell ?_ ?_ _ | with_reducible refine Below.alloc ?_ ?_ _ | with_reducible refine Below.drew ?_ | (simp; done) | (simp; omega) | omega))⟩

end Go.Proofs.Ytifdkjddiohahaa
