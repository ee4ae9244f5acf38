/-
  A new net: impl.ENetNew, spec.ENetNew. No condition.
-/
import Derived.Test.YtbdblfpepnoafaaENode
namespace Go.Proofs.Ytbdblfpepnoafaa
open Go.RowKit

def nodeN (i : Nat) : ENodeD := ⟨(i : Int), 1, [], []⟩
def nodesN (j : Nat) : List ENodeD := (List.range j).map nodeN
def nodeRow (i : Nat) : List Value := [.int .i64 (i : Int), .int .i64 1, .slice none 0 0, .slice none 0 0]
def nodeCells : Nat → List Value
  | 0 => []
  | j + 1 => nodeCells j ++ nodeRow j
theorem nodesN_succ (j : Nat) : nodesN (j + 1) = nodesN j ++ [nodeN j] := by simp [nodesN, List.range_succ]
theorem nodesN_len (j : Nat) : (nodesN j).length = j := by simp [nodesN]
theorem own_nodes (w : World) (base : Nat) : ∀ j : Nat, Own w base (cat ENodeD.c (nodesN j)) (nodeCells j) []
  | 0 => Own.nil.2 ⟨rfl, rfl⟩
  | j + 1 => by
    rw [nodesN_succ, cat_app, cat_one]
    exact Own.app.2 ⟨_, _, [], [], rfl, rfl, own_nodes w base j, ENodeD.shutO (x := nodeN j) (F0 := []) (F1 := []) (Own.sl_none _ rfl) (Own.sl_none _ rfl)⟩
def fENetNew : ENetD := ⟨nodesN 3, []⟩
theorem bENetNew : fENetNew.c.wt ≤ 4611686018427387 ∧ fENetNew.cntT ≤ 4611686018427387 := ⟨by decide, by decide⟩
theorem enet_mine {w : World} {base : Nat} {A : Option Addr} {c : Nat} (h : w.ownsRow base 78 4 (.slice A 3 c) 3 (nodeCells 3)) : Mine w base fENetNew.c [.slice A 3 c, .slice none 0 0] :=
  ⟨_, by simp [List.append_nil]; exact (show (Value.slice A 3 c).ownBlock.toList.Nodup by cases (Value.slice A 3 c).ownBlock <;> simp), ENetD.shutO (x := fENetNew) (F1 := []) (Own.sl1.2 ⟨nodeCells 3, [], (List.append_nil _).symm, rfl, h, own_nodes w base 3⟩) (Own.sl_none _ rfl)⟩


set_option maxRecDepth 100000 in
set_option maxHeartbeats 1000000 in
theorem iENodeNew_ex (i : Nat) (h : i < 3) (w : World) :
    Calls Try.prog 58 #[.int .i64 (i : Int)] w fun e w' => e = .returned (.tuple #[.agg #[.int .i64 (i : Int), .int .i64 1, .slice none 0 0, .slice none 0 0], .bool true]) ∧ Below w.heap.size w w' := by
  have HI := Lib.hid (inB_true (lo := 0) (hi := 2) (x := (i : Int)) (by omega) (by omega))
  go_enter Try.func58, Try.ntmps58
  go_wp2_with fail
  refine (isRep_any _ _).mono ?_; rintro e w' ⟨rfl, rfl⟩
  rw [HI.out]
  go_wp2
  exact bodyPost_cell2 rfl ⟨w.heap.size, 0, none⟩ rfl [.int .i64 (i : Int), .int .i64 1, .slice none 0 0, .slice none 0 0] _ rfl agg_ENode rfl (blk_cells (blk_new _ _ _)) rfl ⟨rfl, (by repeat' (first | with_reducible exact Below.refl _ _ | with_reducible exact BW.out | with_reducible refine Below.setCell ?_ ?_ _ | with_reducible refine Below.alloc ?_ ?_ _ | with_reducible refine Below.drew ?_ | (simp; done) | (simp; omega) | omega))⟩

set_option maxRecDepth 100000 in
set_option maxHeartbeats 2000000 in
theorem iENetNew_any (w : World) :
    Calls Try.prog 63 #[] w fun e w' => ∃ cs, e = .returned (.agg cs.toArray) ∧ Mine w' w.heap.size fENetNew.c cs ∧ Below w.heap.size w w' := by
  go_enter Try.func63, Try.ntmps63
  go_wp2
  go_loopw [6] (fun ii wr => ∃ (j : Nat) (A : Option Addr) (c : Nat), j ≤ 3 ∧ ii = .int .i64 (j : Int) ∧ wr.ownsRow (w.heap.size + 1 + 1) 78 4 (.slice A j c) j (nodeCells j) ∧ Blk wr (w.heap.size + 1) 87 [.slice A j c, .slice none 0 0].toArray ∧ Blk wr w.heap.size 87 [.slice none 0 0, .slice none 0 0].toArray ∧ Below w.heap.size w wr ∧ w.heap.size + 1 + 1 ≤ wr.heap.size) (fun ii _ => 3 - (intOf ii).toNat)
  case atStart => exact ⟨0, none, 0, by omega, rfl, ⟨by simp [nodeCells], .inl ⟨rfl, rfl⟩⟩, blk2_1 _ _ _ _, blk2_0 _ _ _ _, (by repeat' (first | with_reducible exact Below.refl _ _ | with_reducible exact BW.out | with_reducible refine Below.setCell ?_ ?_ _ | with_reducible refine Below.alloc ?_ ?_ _ | with_reducible refine Below.drew ?_ | (simp; done) | (simp; omega) | omega)), by simp⟩
  case round =>
    obtain ⟨j, A, c, hj, rfl, hown, hxb, hzb, hbw, hsz⟩ := hrel
    have HO := Lib.hid hown; clear hown
    have XB := Lib.hid hxb; clear hxb
    have ZB := Lib.hid hzb; clear hzb
    have BW := Lib.hid hbw; clear hbw
    have HSZ := Lib.hid hsz; clear hsz
    by_cases hlt : j < 3
    · go_wp2_with fail
      refine (iENodeNew_ex j hlt _).mono ?_; rintro e v1 ⟨rfl, hb⟩
      have X := Lib.hid (XB.out.below hb); clear XB
      have XB := Lib.hid X.out; clear X
      have X := Lib.hid (ZB.out.below hb); clear ZB
      have ZB := Lib.hid X.out; clear X
      have X := Lib.hid (HO.out.kept (only_of_below hb none) (by cases (Value.slice A j c).ownBlock <;> simp)); clear HO
      have HO := Lib.hid X.out; clear X
      have X := Lib.hid (Nat.le_trans HSZ.out hb.size); clear HSZ
      have HSZ := Lib.hid X.out; clear X
      have X := Lib.hid (show Below w.heap.size w v1 from BW.out.trans (hb.mono BW.out.size)); clear BW hb
      have BW := Lib.hid X.out; clear X
      go_wp2_with (first
        | ((with_reducible show wpList _ _ _ ({ dst := _, op := Op.store 78 _ _, type := _, pos := _, after := _, guard := _ } :: _) _ _); refine wpList_store_row _ v1.heap.size 78 0 [.int .i64 (j : Int), .int .i64 1, .slice none 0 0, .slice none 0 0] [] [.int .i64 0, .int .i64 0, .slice none 0 0, .slice none 0 0] [] _ rfl rfl agg_ENode (blk_new v1 _ _) rfl rfl rfl (by simp [Value.oneCell']) ?_; intro v2 hsb hsg; have XB2 := Lib.hid ((XB.out.alloc (.cells #[.int .i64 0, .int .i64 0, .slice none 0 0, .slice none 0 0] 78)).grown hsg (fun e => by have := XB.out.lt; omega)); have ZB2 := Lib.hid ((ZB.out.alloc (.cells #[.int .i64 0, .int .i64 0, .slice none 0 0, .slice none 0 0] 78)).grown hsg (fun e => by have := ZB.out.lt; omega)); have HO2 := Lib.hid ((HO.out.alloc (.cells #[.int .i64 0, .int .i64 0, .slice none 0 0, .slice none 0 0] 78)).kept hsg (.inr (fun e => by have := (HO.out.lt _ e).2; omega))); have BW2 := Lib.hid (Below.grown (BW.out.alloc BW.out.size _) hsg (Nat.le_trans BW.out.size (by simp)) (fun k hk => by injection hk with hk; have := BW.out.size; omega)); have HSZ2 := Lib.hid (Nat.le_trans HSZ.out (Nat.le_trans (by simp) hsg.size)); have NB := Lib.hid (show Blk v2 v1.heap.size 78 #[.int .i64 (j : Int), .int .i64 1, .slice none 0 0, .slice none 0 0] by simpa using hsb); have hq0 : v2.cell? ⟨w.heap.size + 1, 0, none⟩ = some (.slice A j c) := blk_cell0 (L := [.slice A j c, .slice none 0 0]) XB2.out 0 rfl; clear hsb hsg)
        | ((with_reducible show wpList _ _ _ ({ dst := _, op := Op.load 78 _, type := _, pos := _, after := _, guard := _ } :: _) _ _); refine wpList_load_row _ ⟨v1.heap.size, 0, none⟩ rfl [.int .i64 (j : Int), .int .i64 1, .slice none 0 0, .slice none 0 0] agg_ENode rfl (blk_cells NB.out) ?_)
        | (at_builtin; go_must (refine wpList_app E_ENode _ rfl (.tmp 15) (.tmp 17) rfl (w.heap.size + 1 + 1) _ j (nodeCells j) rfl (HO2.out.alloc _) _ _ _ _ rfl (Reads.new (cs := #[.int .i64 (j : Int), .int .i64 1, .slice none 0 0, .slice none 0 0]) (n := 1) rfl) (by simp [Value.oneCell']) (by omega) (Nat.le_trans HSZ2.out (by simp)) ?_; intro vv w4 hown hg hat; have XB4 := Lib.hid (Blk.keep (XB2.out.alloc (.cells #[.int .i64 (j : Int), .int .i64 1, .slice none 0 0, .slice none 0 0] 78)) (hg.block _ (XB2.out.alloc _).lt (fun e => by have h1 := (HO2.out.lt _ e.symm).1; omega))); have ZB4 := Lib.hid (Blk.keep (ZB2.out.alloc (.cells #[.int .i64 (j : Int), .int .i64 1, .slice none 0 0, .slice none 0 0] 78)) (hg.block _ (ZB2.out.alloc _).lt (fun e => by have h1 := (HO2.out.lt _ e.symm).1; omega))); have BW4 := Lib.hid (Below.grown (BW2.out.alloc BW2.out.size _) hg (Nat.le_trans BW2.out.size (by simp)) (fun k hk => by have h1 := (HO2.out.lt k hk).1; omega)); have HSZ4 := Lib.hid (Nat.le_trans HSZ2.out (Nat.le_trans (by simp) hg.size)); obtain ⟨Av, cv, rfl, _⟩ := SlR.of_own hown; have HO4 := Lib.hid hown; have hq4 : w4.cell? ⟨w.heap.size + 1, 0, none⟩ = some (.slice A j c) := blk_cell0 (L := [.slice A j c, .slice none 0 0]) XB4.out 0 rfl; have hfz : w4.frozen? ⟨w.heap.size + 1, 0, none⟩ = false := XB4.out.frozen 0; clear hown hg hat))
        | fail)
      have hO9 : (w4.setCell ⟨w.heap.size + 1, 0, none⟩ (.slice Av (j + 1) cv)).ownsRow (w.heap.size + 1 + 1) 78 4 (.slice Av (j + 1) cv) (j + 1) (nodeCells (j + 1)) := ownsRow_keep HO4.out (fun k hk => ⟨(HO4.out.lt k hk).1, Below.heap_setCell _ _ _ _ (fun e => by have h1 := (HO4.out.lt k hk).1; have e2 : k = w.heap.size + 1 := e; omega)⟩)
      exact ⟨⟨j + 1, Av, cv, by omega, by go_num, hO9, blk_put0 XB4.out 0 _, ZB4.out.setOther (by simp) _, Below.setCell BW4.out (Nat.le_succ _) _, by rw [setCell_size]; exact HSZ4.out⟩, by simp only [intOf]; omega⟩
    · have hj3 : j = 3 := by omega
      subst hj3
      go_wp2_with (first
        | ((with_reducible show wpList _ _ _ ({ dst := _, op := Op.load 87 _, type := _, pos := _, after := _, guard := _ } :: _) _ _); refine wpList_load_row _ ⟨w.heap.size + 1, 0, none⟩ rfl [.slice A 3 c, .slice none 0 0] agg_ENet rfl (blk_cells XB.out) ?_)
        | ((with_reducible show wpList _ _ _ ({ dst := _, op := Op.store 87 _ _, type := _, pos := _, after := _, guard := _ } :: _) _ _); refine wpList_store_row _ w.heap.size 87 0 [.slice A 3 c, .slice none 0 0] [] [.slice none 0 0, .slice none 0 0] [] _ rfl rfl agg_ENet ZB.out rfl rfl rfl (by simp [Value.oneCell']) ?_; intro v9 hzb hzg)
        | fail)
      have hO9 := ownsRow_keep (base' := w.heap.size) HO.out (w' := v9) (fun k hk => ⟨by have h1 := (HO.out.lt k hk).1; omega, hzg.block k (HO.out.lt k hk).2 (fun e => by injection e with e; have h1 := (HO.out.lt k hk).1; omega)⟩)
      exact bodyPost_cell rfl ⟨w.heap.size, 0, none⟩ rfl [.slice A 3 c, .slice none 0 0] agg_ENet rfl (blk_cells hzb) rfl ⟨_, rfl, enet_mine hO9, Below.grown BW.out hzg BW.out.size (fun k hk => by injection hk with hk; omega)⟩


set_option maxRecDepth 100000 in
set_option maxHeartbeats 1000000 in
theorem sENodeNew_ex (i : Nat) (h : i < 3) (w : World) :
    Calls Try.prog 57 #[.int .i64 (i : Int)] w fun e w' => e = .returned (.tuple #[.agg #[.int .i64 (i : Int), .int .i64 1, .slice none 0 0, .slice none 0 0], .bool true]) ∧ Below w.heap.size w w' := by
  have HI := Lib.hid (inB_true (lo := 0) (hi := 2) (x := (i : Int)) (by omega) (by omega))
  go_enter Try.func57, Try.ntmps57
  go_wp2_with fail
  refine (l9Node_any _ _).mono ?_; rintro e w' ⟨rfl, rfl⟩
  rw [HI.out]
  go_wp2
  exact bodyPost_cell2 rfl ⟨w.heap.size, 0, none⟩ rfl [.int .i64 (i : Int), .int .i64 1, .slice none 0 0, .slice none 0 0] _ rfl agg_ENode rfl (blk_cells (blk_new _ _ _)) rfl ⟨rfl, (by repeat' (first | with_reducible exact Below.refl _ _ | with_reducible exact BW.out | with_reducible refine Below.setCell ?_ ?_ _ | with_reducible refine Below.alloc ?_ ?_ _ | with_reducible refine Below.drew ?_ | (simp; done) | (simp; omega) | omega))⟩

set_option maxRecDepth 100000 in
set_option maxHeartbeats 2000000 in
theorem sENetNew_any (w : World) :
    Calls Try.prog 62 #[] w fun e w' => ∃ cs, e = .returned (.agg cs.toArray) ∧ Mine w' w.heap.size fENetNew.c cs ∧ Below w.heap.size w w' := by
  go_enter Try.func62, Try.ntmps62
  go_wp2
  go_loopw [2] (fun ii wr => ∃ (j : Nat) (A : Option Addr) (c : Nat), j ≤ 3 ∧ ii = .int .i64 (j : Int) ∧ wr.ownsRow (w.heap.size + 1 + 1) 78 4 (.slice A j c) j (nodeCells j) ∧ Blk wr (w.heap.size + 1) 87 [.slice A j c, .slice none 0 0].toArray ∧ Blk wr w.heap.size 87 [.slice none 0 0, .slice none 0 0].toArray ∧ Below w.heap.size w wr ∧ w.heap.size + 1 + 1 ≤ wr.heap.size) (fun ii _ => 3 - (intOf ii).toNat)
  case atStart => exact ⟨0, none, 0, by omega, rfl, ⟨by simp [nodeCells], .inl ⟨rfl, rfl⟩⟩, blk2_1 _ _ _ _, blk2_0 _ _ _ _, (by repeat' (first | with_reducible exact Below.refl _ _ | with_reducible exact BW.out | with_reducible refine Below.setCell ?_ ?_ _ | with_reducible refine Below.alloc ?_ ?_ _ | with_reducible refine Below.drew ?_ | (simp; done) | (simp; omega) | omega)), by simp⟩
  case round =>
    obtain ⟨j, A, c, hj, rfl, hown, hxb, hzb, hbw, hsz⟩ := hrel
    have HO := Lib.hid hown; clear hown
    have XB := Lib.hid hxb; clear hxb
    have ZB := Lib.hid hzb; clear hzb
    have BW := Lib.hid hbw; clear hbw
    have HSZ := Lib.hid hsz; clear hsz
    by_cases hlt : j < 3
    · go_wp2_with fail
      refine (sENodeNew_ex j hlt _).mono ?_; rintro e v1 ⟨rfl, hb⟩
      have X := Lib.hid (XB.out.below hb); clear XB
      have XB := Lib.hid X.out; clear X
      have X := Lib.hid (ZB.out.below hb); clear ZB
      have ZB := Lib.hid X.out; clear X
      have X := Lib.hid (HO.out.kept (only_of_below hb none) (by cases (Value.slice A j c).ownBlock <;> simp)); clear HO
      have HO := Lib.hid X.out; clear X
      have X := Lib.hid (Nat.le_trans HSZ.out hb.size); clear HSZ
      have HSZ := Lib.hid X.out; clear X
      have X := Lib.hid (show Below w.heap.size w v1 from BW.out.trans (hb.mono BW.out.size)); clear BW hb
      have BW := Lib.hid X.out; clear X
      go_wp2_with (first
        | ((with_reducible show wpList _ _ _ ({ dst := _, op := Op.store 78 _ _, type := _, pos := _, after := _, guard := _ } :: _) _ _); refine wpList_store_row _ v1.heap.size 78 0 [.int .i64 (j : Int), .int .i64 1, .slice none 0 0, .slice none 0 0] [] [.int .i64 0, .int .i64 0, .slice none 0 0, .slice none 0 0] [] _ rfl rfl agg_ENode (blk_new v1 _ _) rfl rfl rfl (by simp [Value.oneCell']) ?_; intro v2 hsb hsg; have XB2 := Lib.hid ((XB.out.alloc (.cells #[.int .i64 0, .int .i64 0, .slice none 0 0, .slice none 0 0] 78)).grown hsg (fun e => by have := XB.out.lt; omega)); have ZB2 := Lib.hid ((ZB.out.alloc (.cells #[.int .i64 0, .int .i64 0, .slice none 0 0, .slice none 0 0] 78)).grown hsg (fun e => by have := ZB.out.lt; omega)); have HO2 := Lib.hid ((HO.out.alloc (.cells #[.int .i64 0, .int .i64 0, .slice none 0 0, .slice none 0 0] 78)).kept hsg (.inr (fun e => by have := (HO.out.lt _ e).2; omega))); have BW2 := Lib.hid (Below.grown (BW.out.alloc BW.out.size _) hsg (Nat.le_trans BW.out.size (by simp)) (fun k hk => by injection hk with hk; have := BW.out.size; omega)); have HSZ2 := Lib.hid (Nat.le_trans HSZ.out (Nat.le_trans (by simp) hsg.size)); have NB := Lib.hid (show Blk v2 v1.heap.size 78 #[.int .i64 (j : Int), .int .i64 1, .slice none 0 0, .slice none 0 0] by simpa using hsb); have hq0 : v2.cell? ⟨w.heap.size + 1, 0, none⟩ = some (.slice A j c) := blk_cell0 (L := [.slice A j c, .slice none 0 0]) XB2.out 0 rfl; clear hsb hsg)
        | ((with_reducible show wpList _ _ _ ({ dst := _, op := Op.load 78 _, type := _, pos := _, after := _, guard := _ } :: _) _ _); refine wpList_load_row _ ⟨v1.heap.size, 0, none⟩ rfl [.int .i64 (j : Int), .int .i64 1, .slice none 0 0, .slice none 0 0] agg_ENode rfl (blk_cells NB.out) ?_)
        | (at_builtin; go_must (refine wpList_app E_ENode _ rfl (.tmp 16) (.tmp 18) rfl (w.heap.size + 1 + 1) _ j (nodeCells j) rfl (HO2.out.alloc _) _ _ _ _ rfl (Reads.new (cs := #[.int .i64 (j : Int), .int .i64 1, .slice none 0 0, .slice none 0 0]) (n := 1) rfl) (by simp [Value.oneCell']) (by omega) (Nat.le_trans HSZ2.out (by simp)) ?_; intro vv w4 hown hg hat; have XB4 := Lib.hid (Blk.keep (XB2.out.alloc (.cells #[.int .i64 (j : Int), .int .i64 1, .slice none 0 0, .slice none 0 0] 78)) (hg.block _ (XB2.out.alloc _).lt (fun e => by have h1 := (HO2.out.lt _ e.symm).1; omega))); have ZB4 := Lib.hid (Blk.keep (ZB2.out.alloc (.cells #[.int .i64 (j : Int), .int .i64 1, .slice none 0 0, .slice none 0 0] 78)) (hg.block _ (ZB2.out.alloc _).lt (fun e => by have h1 := (HO2.out.lt _ e.symm).1; omega))); have BW4 := Lib.hid (Below.grown (BW2.out.alloc BW2.out.size _) hg (Nat.le_trans BW2.out.size (by simp)) (fun k hk => by have h1 := (HO2.out.lt k hk).1; omega)); have HSZ4 := Lib.hid (Nat.le_trans HSZ2.out (Nat.le_trans (by simp) hg.size)); obtain ⟨Av, cv, rfl, _⟩ := SlR.of_own hown; have HO4 := Lib.hid hown; have hq4 : w4.cell? ⟨w.heap.size + 1, 0, none⟩ = some (.slice A j c) := blk_cell0 (L := [.slice A j c, .slice none 0 0]) XB4.out 0 rfl; have hfz : w4.frozen? ⟨w.heap.size + 1, 0, none⟩ = false := XB4.out.frozen 0; clear hown hg hat))
        | fail)
      have hO9 : (w4.setCell ⟨w.heap.size + 1, 0, none⟩ (.slice Av (j + 1) cv)).ownsRow (w.heap.size + 1 + 1) 78 4 (.slice Av (j + 1) cv) (j + 1) (nodeCells (j + 1)) := ownsRow_keep HO4.out (fun k hk => ⟨(HO4.out.lt k hk).1, Below.heap_setCell _ _ _ _ (fun e => by have h1 := (HO4.out.lt k hk).1; have e2 : k = w.heap.size + 1 := e; omega)⟩)
      exact ⟨⟨j + 1, Av, cv, by omega, by go_num, hO9, blk_put0 XB4.out 0 _, ZB4.out.setOther (by simp) _, Below.setCell BW4.out (Nat.le_succ _) _, by rw [setCell_size]; exact HSZ4.out⟩, by simp only [intOf]; omega⟩
    · have hj3 : j = 3 := by omega
      subst hj3
      go_wp2_with (first
        | ((with_reducible show wpList _ _ _ ({ dst := _, op := Op.load 87 _, type := _, pos := _, after := _, guard := _ } :: _) _ _); refine wpList_load_row _ ⟨w.heap.size + 1, 0, none⟩ rfl [.slice A 3 c, .slice none 0 0] agg_ENet rfl (blk_cells XB.out) ?_)
        | ((with_reducible show wpList _ _ _ ({ dst := _, op := Op.store 87 _ _, type := _, pos := _, after := _, guard := _ } :: _) _ _); refine wpList_store_row _ w.heap.size 87 0 [.slice A 3 c, .slice none 0 0] [] [.slice none 0 0, .slice none 0 0] [] _ rfl rfl agg_ENet ZB.out rfl rfl rfl (by simp [Value.oneCell']) ?_; intro v9 hzb hzg)
        | fail)
      have hO9 := ownsRow_keep (base' := w.heap.size) HO.out (w' := v9) (fun k hk => ⟨by have h1 := (HO.out.lt k hk).1; omega, hzg.block k (HO.out.lt k hk).2 (fun e => by injection e with e; have h1 := (HO.out.lt k hk).1; omega)⟩)
      exact bodyPost_cell rfl ⟨w.heap.size, 0, none⟩ rfl [.slice A 3 c, .slice none 0 0] agg_ENet rfl (blk_cells hzb) rfl ⟨_, rfl, enet_mine hO9, Below.grown BW.out hzg BW.out.size (fun k hk => by injection hk with hk; omega)⟩

end Go.Proofs.Ytbdblfpepnoafaa
