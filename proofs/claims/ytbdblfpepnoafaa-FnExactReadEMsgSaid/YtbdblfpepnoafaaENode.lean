/-
  Nodes: impl.ENodeNew, spec.ENodeNew. Conditions: as each contract names them.
-/
import Derived.Test.YtbdblfpepnoafaaEq
import Derived.Test.YtbdblfpepnoafaaNum
import Derived.Test.YtbdblfpepnoafaaRet
namespace Go.Proofs.Ytbdblfpepnoafaa
open Go.RowKit
theorem Own.sl_none {w : World} {base e sz : Nat} (i : Cs) (hi : i = .nil) : Own w base (.sl e sz 0 i .nil) [.slice none 0 0] [] := by
  subst hi
  exact Own.sl1.2 ⟨[], [], rfl, by simp [Cs.width], ⟨by simp, .inl ⟨rfl, rfl⟩⟩, Own.nil.2 ⟨rfl, rfl⟩⟩

set_option maxRecDepth 100000 in
set_option maxHeartbeats 1000000 in
theorem isRep_any (x : Int) (w : World) :
    Calls Try.prog 74 #[.int .i64 x] w fun e w' => e = .returned (.bool (inB 0 2 x)) ∧ w = w' := by
  go_enter Try.func74, Try.ntmps74
  go_wp2_with fail
  refine (within_any _ _ _ _).mono ?_; rintro e w' ⟨rfl, rfl⟩
  go_wp2
  go_ret
  exact ⟨rfl, rfl⟩

set_option maxRecDepth 100000 in
set_option maxHeartbeats 1000000 in
theorem l9Node_any (x : Int) (w : World) :
    Calls Try.prog 68 #[.int .i64 x] w fun e w' => e = .returned (.bool (inB 0 2 x)) ∧ w = w' := by
  by_cases h : 0 ≤ x
  · by_cases h2 : x < 3
    · have HR := Lib.hid (show inB 0 2 x = true from inB_true (by omega) (by omega))
      go_enter Try.func68, Try.ntmps68
      go_wp2
      go_ret
      exact ⟨ret_eq (by rw [HR.out]; rfl), rfl⟩
    · have HR := Lib.hid (show inB 0 2 x = false from inB_false (by omega))
      go_enter Try.func68, Try.ntmps68
      go_wp2
      go_ret
      exact ⟨ret_eq (by rw [HR.out]; rfl), rfl⟩
  · have HR := Lib.hid (show inB 0 2 x = false from inB_false (by omega))
    go_enter Try.func68, Try.ntmps68
    go_wp2
    go_ret
    exact ⟨ret_eq (by rw [HR.out]; rfl), rfl⟩

def fENodeNew (me : Int) : ENodeD × Bool := if inB 0 2 me = true then (⟨me, 1, [], []⟩, true) else (⟨0, 0, [], []⟩, false)
theorem bENodeNew (me : Int) (_ : i64ok me) : (fENodeNew me).1.c.wt ≤ 4611686018427387 ∧ (fENodeNew me).1.cntT ≤ 4611686018427387 := by
  have e1 : ∀ a b, (ENodeD.c ⟨a, b, [], []⟩).wt = 0 := fun _ _ => rfl
  have e2 : ∀ a b, (ENodeD.cntT ⟨a, b, [], []⟩) = 0 := fun _ _ => rfl
  unfold fENodeNew
  split <;> simp only [e1, e2] <;> omega
theorem eNode_mine (w : World) (base : Nat) (me next : Int) : Mine w base (ENodeD.c ⟨me, next, [], []⟩) [.int .i64 me, .int .i64 next, .slice none 0 0, .slice none 0 0] :=
  ⟨[], List.nodup_nil, ENodeD.shutO (x := ⟨me, next, [], []⟩) (F0 := []) (F1 := []) (Own.sl_none _ rfl) (Own.sl_none _ rfl)⟩

set_option maxRecDepth 100000 in
set_option maxHeartbeats 1000000 in
theorem iENodeNew_any (me : Int) (w : World) (hme : i64ok me) :
    Calls Try.prog 58 #[.int .i64 me] w fun e w' => ∃ cs, e = .returned (.tuple #[.agg cs.toArray, .bool (fENodeNew me).2]) ∧ Mine w' w.heap.size (fENodeNew me).1.c cs ∧ Below w.heap.size w w' := by
  have HF := Lib.hid (show fENodeNew me = if inB 0 2 me = true then (⟨me, 1, [], []⟩, true) else (⟨0, 0, [], []⟩, false) from rfl)
  generalize fENodeNew me = R at *
  go_enter Try.func58, Try.ntmps58
  go_wp2_with fail
  refine (isRep_any _ _).mono ?_; rintro e w' ⟨rfl, rfl⟩
  cases hb : inB 0 2 me
  · obtain rfl := (show R = (⟨0, 0, [], []⟩, false) by rw [HF.out, hb]; rfl)
    clear HF
    go_wp2
    exact bodyPost_cell2 rfl ⟨w.heap.size, 0, none⟩ rfl [.int .i64 0, .int .i64 0, .slice none 0 0, .slice none 0 0] _ rfl agg_ENode rfl (blk_cells (blk_new _ _ _)) rfl ⟨_, rfl, eNode_mine _ _ 0 0, (by repeat' (first | with_reducible exact Below.refl _ _ | with_reducible exact BW.out | with_reducible refine Below.setCell ?_ ?_ _ | with_reducible refine Below.alloc ?_ ?_ _ | with_reducible refine Below.drew ?_ | (simp; done) | (simp; omega) | omega))⟩
  · obtain rfl := (show R = (⟨me, 1, [], []⟩, true) by rw [HF.out, hb]; rfl)
    clear HF
    go_wp2
    exact bodyPost_cell2 rfl ⟨w.heap.size, 0, none⟩ rfl [.int .i64 me, .int .i64 1, .slice none 0 0, .slice none 0 0] _ rfl agg_ENode rfl (blk_cells (blk_new _ _ _)) rfl ⟨_, rfl, eNode_mine _ _ me 1, (by repeat' (first | with_reducible exact Below.refl _ _ | with_reducible exact BW.out | with_reducible refine Below.setCell ?_ ?_ _ | with_reducible refine Below.alloc ?_ ?_ _ | with_reducible refine Below.drew ?_ | (simp; done) | (simp; omega) | omega))⟩

set_option maxRecDepth 100000 in
set_option maxHeartbeats 1000000 in
theorem sENodeNew_any (me : Int) (w : World) (hme : i64ok me) :
    Calls Try.prog 57 #[.int .i64 me] w fun e w' => ∃ cs, e = .returned (.tuple #[.agg cs.toArray, .bool (fENodeNew me).2]) ∧ Mine w' w.heap.size (fENodeNew me).1.c cs ∧ Below w.heap.size w w' := by
  have HF := Lib.hid (show fENodeNew me = if inB 0 2 me = true then (⟨me, 1, [], []⟩, true) else (⟨0, 0, [], []⟩, false) from rfl)
  generalize fENodeNew me = R at *
  go_enter Try.func57, Try.ntmps57
  go_wp2_with fail
  refine (l9Node_any _ _).mono ?_; rintro e w' ⟨rfl, rfl⟩
  cases hb : inB 0 2 me
  · obtain rfl := (show R = (⟨0, 0, [], []⟩, false) by rw [HF.out, hb]; rfl)
    clear HF
    go_wp2
    exact bodyPost_cell2 rfl ⟨w.heap.size, 0, none⟩ rfl [.int .i64 0, .int .i64 0, .slice none 0 0, .slice none 0 0] _ rfl agg_ENode rfl (blk_cells (blk_new _ _ _)) rfl ⟨_, rfl, eNode_mine _ _ 0 0, (by repeat' (first | with_reducible exact Below.refl _ _ | with_reducible exact BW.out | with_reducible refine Below.setCell ?_ ?_ _ | with_reducible refine Below.alloc ?_ ?_ _ | with_reducible refine Below.drew ?_ | (simp; done) | (simp; omega) | omega))⟩
  · obtain rfl := (show R = (⟨me, 1, [], []⟩, true) by rw [HF.out, hb]; rfl)
    clear HF
    go_wp2
    exact bodyPost_cell2 rfl ⟨w.heap.size, 0, none⟩ rfl [.int .i64 me, .int .i64 1, .slice none 0 0, .slice none 0 0] _ rfl agg_ENode rfl (blk_cells (blk_new _ _ _)) rfl ⟨_, rfl, eNode_mine _ _ me 1, (by repeat' (first | with_reducible exact Below.refl _ _ | with_reducible exact BW.out | with_reducible refine Below.setCell ?_ ?_ _ | with_reducible refine Below.alloc ?_ ?_ _ | with_reducible refine Below.drew ?_ | (simp; done) | (simp; omega) | omega))⟩

end Go.Proofs.Ytbdblfpepnoafaa
