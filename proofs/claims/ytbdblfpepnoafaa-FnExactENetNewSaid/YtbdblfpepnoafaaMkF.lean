/-
  The laws' helpers mark* and held*, greater elements. Conditions: as each contract names them.
-/
import Derived.Test.YtbdblfpepnoafaaMkD
import Derived.Test.YtbdblfpepnoafaaMkE
namespace Go.Proofs.Ytbdblfpepnoafaa
open Go.RowKit


set_option maxRecDepth 100000 in
set_option maxHeartbeats 1000000 in
theorem markENet_any (x : ENetD) (k : Nat) (y0 : Int) (base : Nat) (cs : List Value) (F : List Nat) (w : World) (hy0 : y0 = (k : Int)) (hk1 : 1 ≤ k) (hk2 : k + x.cntT ≤ 4611686018427387904) (hF : F.Nodup) (h : Own w base x.c cs F) :
    Calls Try.prog 65 #[.agg cs.toArray, .int .i64 y0] w fun e w' => ∃ q : Int, e = .returned (.int .i64 q) ∧ q = ((k + x.cntT : Nat) : Int) ∧ Own w' base (x.mkT k).c cs F ∧ Mod F w w' := by
  obtain ⟨A0, k0, A1, k1, F0, F1, rfl, rfl, s0, s1⟩ := ENetD.openO h
  have S0 := Lib.hid s0; clear s0
  have S1 := Lib.hid s1; clear s1
  clear h
  have HK2 := Lib.hid hk2; clear hk2
  have HY := Lib.hid hy0; clear hy0
  have hy1 : 1 ≤ y0 := by have := HY.out; omega
  have HCT := Lib.hid (show x.cntT = cts ENodeD.cnt x.nodes + cts EMsgD.cnt x.pool from rfl)
  have LT0 := Lib.hid (fun b hb => (S0.out.in b hb).2)
  have LT1 := Lib.hid (fun b hb => (S1.out.in b hb).2)
  have HF := Lib.hid hF; clear hF
  have MW := Lib.hid (Mod.refl (F0 ++ (F1)) w)
  go_enter Try.func65, Try.ntmps65
  go_wp2_with fail
  refine (markENodeS_any x.nodes (k) _ base _ _ _ F0 _ rfl (by have := HY.out; omega) (by omega) (by have := HCT.out; have := HK2.out; omega) (nodup_l HF.out) (S0.out.below (by repeat' (first | with_reducible exact Below.refl _ _ | with_reducible refine Below.alloc ?_ ?_ _ | (simp; done) | (simp; omega) | omega)))).mono ?_; rintro e w1 ⟨q0, rfl, hq, ho, hm⟩
  have HQ0 := Lib.hid hq; clear hq
  have hq0a : 1 ≤ q0 := by have := HQ0.out; omega
  have hq0b : q0 ≤ 4611686018427387904 := by have := HQ0.out; have := HCT.out; have := HK2.out; omega
  have hq0c : 0 ≤ q0 := by omega
  have hc0 : ∀ o, w1.cell? ⟨w.heap.size, o, none⟩ = World.cell? _ ⟨w.heap.size, o, none⟩ := fun o => World.cell?_of_block (hm.block w.heap.size (by simp) (fun hx => Nat.lt_irrefl _ (LT0.out _ hx)))
  have HZ := Lib.hid (show w.heap.size < w1.heap.size from Nat.lt_of_lt_of_le (by simp) hm.size)
  have s0 := ho
  have s1 := (S1.out.below (by repeat' (first | with_reducible exact Below.refl _ _ | with_reducible refine Below.alloc ?_ ?_ _ | (simp; done) | (simp; omega) | omega))).mod1 hm (fun b hb e => disj HF.out b e hb)
  have M1 := Lib.hid (MW.out.trans (Mod.trans (Mod.of_below (by repeat' (first | with_reducible exact Below.refl _ _ | with_reducible refine Below.alloc ?_ ?_ _ | (simp; done) | (simp; omega) | omega)) _) (hm.mono (by intro b hb; simp [hb])))); clear MW
  have MW := Lib.hid M1.out; clear M1
  have S0' := Lib.hid s0; clear S0 s0
  have S0 := Lib.hid S0'.out; clear S0'
  have S1' := Lib.hid s1; clear S1 s1
  have S1 := Lib.hid S1'.out; clear S1'
  clear ho hm
  go_wp2_with fail
  refine (markEMsgS_any x.pool (k + cts ENodeD.cnt x.nodes) _ base _ _ _ F1 _ rfl (by have := HY.out; have := HQ0.out; omega) (by omega) (by have := HCT.out; have := HK2.out; omega) (nodup_r HF.out) (S1.out.below (by repeat' (first | with_reducible exact Below.refl _ _ | with_reducible refine Below.alloc ?_ ?_ _ | (simp; done) | (simp; omega) | omega)))).mono ?_; rintro e w2 ⟨q1, rfl, hq, ho, hm⟩
  have HQ1 := Lib.hid hq; clear hq
  have hq1a : 1 ≤ q1 := by have := HQ1.out; omega
  have hq1b : q1 ≤ 4611686018427387904 := by have := HQ1.out; have := HCT.out; have := HK2.out; omega
  have hq1c : 0 ≤ q1 := by omega
  have hc1 : ∀ o, w2.cell? ⟨w.heap.size, o, none⟩ = World.cell? _ ⟨w.heap.size, o, none⟩ := fun o => World.cell?_of_block (hm.block w.heap.size HZ.out (fun hx => Nat.lt_irrefl _ (LT1.out _ hx)))
  have s0 := (S0.out.below (by repeat' (first | with_reducible exact Below.refl _ _ | with_reducible refine Below.alloc ?_ ?_ _ | (simp; done) | (simp; omega) | omega))).mod1 hm (fun b hb e => disj HF.out b hb e)
  have s1 := ho
  have M1 := Lib.hid (MW.out.trans (Mod.trans (Mod.refl _ _) (hm.mono (by intro b hb; simp [hb])))); clear MW
  have MW := Lib.hid M1.out; clear M1
  have S0' := Lib.hid s0; clear S0 s0
  have S0 := Lib.hid S0'.out; clear S0'
  have S1' := Lib.hid s1; clear S1 s1
  have S1 := Lib.hid S1'.out; clear S1'
  clear ho hm
  go_wp2
  go_ret
  exact ⟨_, rfl, by have := HCT.out; have := HY.out; have := HQ0.out; have := HQ1.out; omega, ENetD.shutO (x := ENetD.mkT x k) (own_cast S0.out (mks_length _ _).symm) (own_cast S1.out (mks_length _ _).symm), MW.out⟩


set_option maxRecDepth 100000 in
set_option maxHeartbeats 1000000 in
theorem heldENet_any (x : ENetD) (k : Nat) (y0 : Int) (cs : List Value) (w : World) (hy0 : y0 = (k : Int)) (hk1 : 1 ≤ k) (hk2 : k + x.cntT ≤ 4611686018427387904) (hwt : x.c.wt ≤ 9223372036854775807) (h : Rep anyB w (x.mkT k).c cs) :
    Calls Try.prog 66 #[.agg cs.toArray, .int .i64 y0] w fun e w' => ∃ q : Int, e = .returned (.int .i64 q) ∧ q = ((k + x.cntT : Nat) : Int) ∧ Below w.heap.size w w' := by
  obtain ⟨A0, k0, A1, k1, rfl, s0, s1⟩ := ENetD.open h
  have hw0 : x.c.wt = (x.nodes.length + (cat ENodeD.c x.nodes).wt + (x.pool.length + (cat EMsgD.c x.pool).wt + 0)) := rfl
  rw [hw0] at hwt
  have HWT := Lib.hid hwt; clear hwt hw0
  have S0 := Lib.hid s0; clear s0
  have S1 := Lib.hid s1; clear s1
  clear h
  have HK2 := Lib.hid hk2; clear hk2
  have HY := Lib.hid hy0; clear hy0
  have hy1 : 1 ≤ y0 := by have := HY.out; omega
  have HCT := Lib.hid (show x.cntT = cts ENodeD.cnt x.nodes + cts EMsgD.cnt x.pool from rfl)
  go_enter Try.func66, Try.ntmps66
  have BW := Lib.hid (Below.refl w.heap.size w)
  go_wp2_with fail
  refine (heldENodeS_any x.nodes (k) _ _ _ _ _ (mks_length _ _) (by have := HY.out; omega) (by omega) (by have := HCT.out; have := HK2.out; omega) (S0.out.below (by repeat' (first | with_reducible exact Below.refl _ _ | with_reducible exact BW.out | with_reducible refine Below.setCell ?_ ?_ _ | with_reducible refine Below.alloc ?_ ?_ _ | with_reducible refine Below.drew ?_ | (simp; done) | (simp; omega) | omega)))).mono ?_; rintro e w1 ⟨q0, rfl, hq, hb⟩
  have HQ0 := Lib.hid hq; clear hq
  have hq0a : 1 ≤ q0 := by have := HQ0.out; omega
  have hq0b : q0 ≤ 4611686018427387904 := by have := HQ0.out; have := HCT.out; have := HK2.out; omega
  have hq0c : 0 ≤ q0 := by omega
  obtain ⟨hc0, hf0⟩ := bcell hb
  have hz0 : w.heap.size < w1.heap.size := by have := hb.size; (try simp at this); omega
  have B1 := Lib.hid (show Below w.heap.size w w1 from Below.trans (by repeat' (first | with_reducible exact Below.refl _ _ | with_reducible exact BW.out | with_reducible refine Below.setCell ?_ ?_ _ | with_reducible refine Below.alloc ?_ ?_ _ | with_reducible refine Below.drew ?_ | (simp; done) | (simp; omega) | omega)) (hb.mono (by first | (simp; done) | (simp; omega) | omega))); clear BW hb
  have BW := Lib.hid B1.out; clear B1
  go_wp2_with fail
  refine (heldEMsgS_any x.pool (k + cts ENodeD.cnt x.nodes) _ _ _ _ _ (mks_length _ _) (by have := HY.out; have := HQ0.out; omega) (by omega) (by have := HCT.out; have := HK2.out; omega) (S1.out.below (by repeat' (first | with_reducible exact Below.refl _ _ | with_reducible exact BW.out | with_reducible refine Below.setCell ?_ ?_ _ | with_reducible refine Below.alloc ?_ ?_ _ | with_reducible refine Below.drew ?_ | (simp; done) | (simp; omega) | omega)))).mono ?_; rintro e w2 ⟨q1, rfl, hq, hb⟩
  have HQ1 := Lib.hid hq; clear hq
  have hq1a : 1 ≤ q1 := by have := HQ1.out; omega
  have hq1b : q1 ≤ 4611686018427387904 := by have := HQ1.out; have := HCT.out; have := HK2.out; omega
  have hq1c : 0 ≤ q1 := by omega
  obtain ⟨hc1, hf1⟩ := bcell hb
  have hz1 : w.heap.size < w2.heap.size := by have := hb.size; (try simp at this); omega
  have B1 := Lib.hid (show Below w.heap.size w w2 from Below.trans (by repeat' (first | with_reducible exact Below.refl _ _ | with_reducible exact BW.out | with_reducible refine Below.setCell ?_ ?_ _ | with_reducible refine Below.alloc ?_ ?_ _ | with_reducible refine Below.drew ?_ | (simp; done) | (simp; omega) | omega)) (hb.mono (by first | (simp; done) | (simp; omega) | omega))); clear BW hb
  have BW := Lib.hid B1.out; clear B1
  go_wp2
  go_ret
  exact ⟨_, rfl, by have := HCT.out; have := HY.out; have := HQ0.out; have := HQ1.out; omega, (by repeat' (first | with_reducible exact Below.refl _ _ | with_reducible exact BW.out | with_reducible refine Below.setCell ?_ ?_ _ | with_reducible refine Below.alloc ?_ ?_ _ | with_reducible refine Below.drew ?_ | (simp; done) | (simp; omega) | omega))⟩

end Go.Proofs.Ytbdblfpepnoafaa
