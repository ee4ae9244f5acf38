/-
  Copies of logs: impl.copyLog, spec.l6Copy. Conditions: a bound on the sizes.
-/
import Derived.Test.YtifdkjddiohahaaLogOk
import Derived.Test.YtifdkjddiohahaaRet
import Derived.Test.YtifdkjddiohahaaEq
import Derived.Test.YtifdkjddiohahaaFlat
namespace Go.Proofs.Ytifdkjddiohahaa
open Go.RowKit

theorem SegD.flat (x : SegD) : x.c.flat = true := rfl

set_option maxRecDepth 100000 in
set_option maxHeartbeats 2000000 in
theorem copyLog_any (x : LogD) (cs : List Value) (w : World) (hwt : x.c.wt ≤ 1048576) (h : Rep anyB w x.c cs) :
    Calls Try.prog 90 #[.agg cs.toArray] w fun e w' => ∃ cs', e = .returned (.agg cs'.toArray) ∧ Mine w' w.heap.size x.c cs' ∧ Below w.heap.size w w' := by
  have hw0 : x.c.wt = x.segs.length + (cat SegD.c x.segs).wt + 0 := rfl
  obtain ⟨A0, k0, rfl, s0⟩ := LogD.open h
  obtain ⟨segs, next, mark⟩ := x
  simp only [] at s0 hw0 ⊢
  obtain ⟨cells, hrd, hrc, hwd⟩ := s0.row
  have hn1 : segs.length ≤ 1048576 := by omega
  have HRD := Lib.hid hrd
  have HRC := Lib.hid hrc
  have HWD := Lib.hid hwd
  clear h hw0 hwt s0 hrd hrc hwd
  go_enter Try.func90, Try.ntmps90
  go_wp2
  refine wp_region_x 7 [0, 1, 3, 4, 5, 6, 2] (by kernel_rfl) (by kernel_rfl) ?_
  iterate 6 (refine wpX_quiet rfl (by kernel_rfl) rfl ?_; go_wp2; refine ⟨rfl, ?_⟩)
  refine wpX_actor rfl (by kernel_rfl) ?_
  refine wpList_app E_Seg _ rfl _ (.tmp 4) rfl w.heap.size (.slice none 0 0) 0 [] rfl ⟨by simp, .inl ⟨rfl, rfl⟩⟩ _ _ _ cells rfl (HRD.out.below (show Below w.heap.size w _ from (by repeat' (first | with_reducible exact Below.refl _ _ | with_reducible exact BW.out | with_reducible refine Below.setCell ?_ ?_ _ | with_reducible refine Below.alloc ?_ ?_ _ | with_reducible refine Below.drew ?_ | (simp; done) | (simp; omega) | omega)))) HRC.out.one (by omega) (by simp; omega) ?_
  intro vv w2 hown hg hat
  refine ⟨Ext.of_grown hg, ?_⟩
  have hb2 : Below w.heap.size w w2 := Below.grown (show Below w.heap.size w _ from (by repeat' (first | with_reducible exact Below.refl _ _ | with_reducible exact BW.out | with_reducible refine Below.setCell ?_ ?_ _ | with_reducible refine Below.alloc ?_ ?_ _ | with_reducible refine Below.drew ?_ | (simp; done) | (simp; omega) | omega))) hg (by simp; omega) (fun k hk => by cases hk)
  have hb3 : w.heap.size + 1 + 1 ≤ w2.heap.size := Nat.le_trans (by simp) hg.size
  have hz : Blk w2 (w.heap.size + 1) 46 [.slice none 0 0, .int .i64 0, .int .i64 0].toArray := Blk.keep (w := ((w.alloc (.cells #[.slice A0 segs.length k0, .int .i64 next, .int .i64 mark] 46)).alloc (.cells #[.slice none 0 0, .int .i64 0, .int .i64 0] 46))) (blk2_1 _ _ _ _) (hg.block _ (by simp) (fun e => by cases e))
  rw [Nat.zero_add, List.nil_append] at hown
  obtain ⟨Av, cv, rfl, _⟩ := SlR.of_own hown
  have HB2 := Lib.hid hb2; clear hb2
  have HB3 := Lib.hid hb3; clear hb3
  have HZ := Lib.hid hz; clear hz
  have HAT := Lib.hid hat; clear hat
  have HO := Lib.hid hown; clear hown hg
  refine wpX_nil ?_
  try simp only [List.drop_succ_cons, List.drop_zero]
  go_wp2_with (first | ((with_reducible show wpList _ _ _ ({ dst := _, op := Op.store 46 _ _, type := _, pos := _, after := _, guard := _ } :: _) _ _); refine wpList_store_row _ (w.heap.size + 1) 46 0 [.slice Av segs.length cv, .int .i64 next, .int .i64 mark] [] [.slice none 0 0, .int .i64 0, .int .i64 0] [] _ rfl rfl agg_Log HZ.out rfl rfl rfl (by simp [Value.oneCell']) ?_; intro w3 hsb hsg) | fail)
  have hown3 : w3.ownsRow w.heap.size 90 2 (.slice Av segs.length cv) segs.length cells := HO.out.kept hsg (by
    rcases HAT.out with h | h
    · exact .inl h
    · exact .inr (by rw [h]; intro e; injection e with e; simp at e))
  refine bodyPost_cell rfl ⟨w.heap.size + 1, 0, none⟩ rfl [.slice Av segs.length cv, .int .i64 next, .int .i64 mark] agg_Log rfl (blk_cells hsb) rfl ⟨_, rfl, ⟨_, nodup_own _, LogD.shutO (x := ⟨segs, next, mark⟩) (mine_row (cat_flat SegD.flat segs) HRC.out HWD.out hown3 rfl)⟩, ?_⟩
  exact Below.grown HB2.out hsg (Nat.le_trans (Nat.le_add_right _ 2) HB3.out) (fun k hk => by injection hk with hk; omega)

set_option maxRecDepth 100000 in
set_option maxHeartbeats 2000000 in
theorem l6Copy_any (x : LogD) (cs : List Value) (w : World) (hwt : x.c.wt ≤ 1048576) (h : Rep anyB w x.c cs) :
    Calls Try.prog 88 #[.agg cs.toArray] w fun e w' => ∃ cs', e = .returned (.agg cs'.toArray) ∧ Mine w' w.heap.size x.c cs' ∧ Below w.heap.size w w' := by
  have hw0 : x.c.wt = x.segs.length + (cat SegD.c x.segs).wt + 0 := rfl
  obtain ⟨A0, k0, rfl, s0⟩ := LogD.open h
  obtain ⟨segs, next, mark⟩ := x
  simp only [] at s0 hw0 ⊢
  obtain ⟨cells, hrd, hrc, hwd⟩ := s0.row
  have hn1 : segs.length ≤ 1048576 := by omega
  have HRD := Lib.hid hrd
  have HRC := Lib.hid hrc
  have HWD := Lib.hid hwd
  clear h hw0 hwt s0 hrd hrc hwd
  have ho0 := World.ownsRow_made (base := w.heap.size) (size := 2) (e := 90) ((w.alloc (.cells #[.slice A0 segs.length k0, .int .i64 next, .int .i64 mark] 46)).alloc (.cells #[.slice none 0 0, .int .i64 0, .int .i64 0] 46)) #[] 0 (by simp; omega) (by simp [maxLen]) rfl
  rw [show (World.heap ((w.alloc (.cells #[.slice A0 segs.length k0, .int .i64 next, .int .i64 mark] 46)).alloc (.cells #[.slice none 0 0, .int .i64 0, .int .i64 0] 46))).size = w.heap.size + 1 + 1 by simp] at ho0
  have HO0 := Lib.hid ho0; clear ho0
  go_enter Try.func88, Try.ntmps88
  go_wp2_with (first
    | (at_builtin; go_must (refine wpList_app E_Seg _ rfl (.tmp 3) (.tmp 5) rfl w.heap.size _ 0 [] rfl HO0.out _ _ _ cells rfl (HRD.out.below (show Below w.heap.size w _ from (by repeat' (first | with_reducible exact Below.refl _ _ | with_reducible exact BW.out | with_reducible refine Below.setCell ?_ ?_ _ | with_reducible refine Below.alloc ?_ ?_ _ | with_reducible refine Below.drew ?_ | (simp; done) | (simp; omega) | omega)))) HRC.out.one (by omega) (by simp; omega) ?_; intro vv w2 hown hg hat; have hb2 : Below w.heap.size w w2 := Below.grown (show Below w.heap.size w _ from (by repeat' (first | with_reducible exact Below.refl _ _ | with_reducible exact BW.out | with_reducible refine Below.setCell ?_ ?_ _ | with_reducible refine Below.alloc ?_ ?_ _ | with_reducible refine Below.drew ?_ | (simp; done) | (simp; omega) | omega))) hg (by simp; omega) (fun k hk => by injection hk with hk; simp at hk; omega); have hb3 : w.heap.size + 1 + 1 + 1 ≤ w2.heap.size := Nat.le_trans (by simp) hg.size; have hsb : Blk w2 w.heap.size 46 [.slice A0 segs.length k0, .int .i64 next, .int .i64 mark].toArray := Blk.keep (w := ((w.alloc (.cells #[.slice A0 segs.length k0, .int .i64 next, .int .i64 mark] 46)).alloc (.cells #[.slice none 0 0, .int .i64 0, .int .i64 0] 46)).alloc (.cells #[] 90)) (blk3_0 _ _ _ _ _) (hg.block _ (by simp; omega) (fun e => by injection e with e; first | omega | (simp at e; done) | (simp at e; omega))); have hz : Blk w2 (w.heap.size + 1) 46 [.slice none 0 0, .int .i64 0, .int .i64 0].toArray := Blk.keep (w := ((w.alloc (.cells #[.slice A0 segs.length k0, .int .i64 next, .int .i64 mark] 46)).alloc (.cells #[.slice none 0 0, .int .i64 0, .int .i64 0] 46)).alloc (.cells #[] 90)) (blk3_1 _ _ _ _ _) (hg.block _ (by simp) (fun e => by injection e with e; first | omega | (simp at e; done) | (simp at e; omega))); rw [Nat.zero_add, List.nil_append] at hown; obtain ⟨Av, cv, rfl, _⟩ := SlR.of_own hown; have hq0 : w2.cell? ⟨w.heap.size, 0, none⟩ = some (.slice A0 segs.length k0) := blk_cell0 (L := [.slice A0 segs.length k0, .int .i64 next, .int .i64 mark]) hsb 0 rfl; have hfz : w2.frozen? ⟨w.heap.size, 0, none⟩ = false := hsb.frozen 0; have HS := Lib.hid (blk_put0 hsb 0 (.slice Av segs.length cv)); have HZ := Lib.hid (Blk.setOther hz (a := ⟨w.heap.size, 0, none⟩) (by simp) (.slice Av segs.length cv)); have HB2 := Lib.hid hb2; have HB3 := Lib.hid hb3; have HAT := Lib.hid hat; have HO := Lib.hid hown; clear hb2 hb3 hsb hz hat hown hg))
    | ((with_reducible show wpList _ _ _ ({ dst := _, op := Op.load 46 _, type := _, pos := _, after := _, guard := _ } :: _) _ _); refine wpList_load_row _ ⟨w.heap.size, 0, none⟩ rfl [.slice Av segs.length cv, .int .i64 next, .int .i64 mark] agg_Log rfl (blk_cells HS.out) ?_)
    | ((with_reducible show wpList _ _ _ ({ dst := _, op := Op.store 46 _ _, type := _, pos := _, after := _, guard := _ } :: _) _ _); refine wpList_store_row _ (w.heap.size + 1) 46 0 [.slice Av segs.length cv, .int .i64 next, .int .i64 mark] [] [.slice none 0 0, .int .i64 0, .int .i64 0] [] _ rfl rfl agg_Log HZ.out rfl rfl rfl (by simp [Value.oneCell']) ?_; intro w3 hsb hsg)
    | fail)
  have hbb : ∀ b, (Value.slice Av segs.length cv).ownBlock = some b → w.heap.size + 1 < b := fun b hb => by
    rcases HAT.out with h | h
    · have e : some b = some (w.heap.size + 1 + 1) := hb.symm.trans h
      injection e with e
      omega
    · have e := hb.symm.trans h
      injection e with e
      rw [e]
      simp
  have hown3 : w3.ownsRow w.heap.size 90 2 (.slice Av segs.length cv) segs.length cells := ownsRow_keep HO.out (fun b hb => by
    have h1 := hbb b hb
    have h2 := HO.out.lt b hb
    refine ⟨by omega, (hsg.block b (by simpa [World.setCell] using h2.2) (fun e => by injection e with e; omega)).trans (Below.heap_setCell _ _ _ _ (fun e => ?_))⟩
    have e2 : b = w.heap.size := e
    omega)
  refine bodyPost_cell rfl ⟨w.heap.size + 1, 0, none⟩ rfl [.slice Av segs.length cv, .int .i64 next, .int .i64 mark] agg_Log rfl (blk_cells hsb) rfl ⟨_, rfl, ⟨_, nodup_own _, LogD.shutO (x := ⟨segs, next, mark⟩) (mine_row (cat_flat SegD.flat segs) HRC.out HWD.out hown3 rfl)⟩, ?_⟩
  exact Below.grown (Below.setCell HB2.out (Nat.le_refl _) _) hsg (by rw [setCell_size]; exact Nat.le_trans (Nat.le_add_right _ 3) HB3.out) (fun k hk => by injection hk with hk; omega)

end Go.Proofs.Ytifdkjddiohahaa
