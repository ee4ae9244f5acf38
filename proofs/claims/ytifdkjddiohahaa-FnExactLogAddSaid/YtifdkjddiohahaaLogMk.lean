/-
  A log's mark set: impl.LogMark, spec.LogMark. Conditions: a bound on the sizes.
-/
import Derived.Test.YtifdkjddiohahaaLogTi
import Derived.Test.YtifdkjddiohahaaLogRead
namespace Go.Proofs.Ytifdkjddiohahaa
open Go.RowKit

noncomputable def fLogMark (l : LogD) (n : Int) : LogD × Bool := if logOkB l = true then (if l.mark ≤ n ∧ n ≤ l.next - 1 then (⟨trimS n l.segs, l.next, n⟩, true) else (l, false)) else (⟨[], 0, 0⟩, false)
theorem trimS_le (m : Int) : ∀ xs : List SegD, (trimS m xs).length ≤ xs.length ∧ (cat SegD.c (trimS m xs)).wt ≤ (cat SegD.c xs).wt
  | [] => ⟨Nat.le_refl _, Nat.le_refl _⟩
  | [_] => ⟨Nat.le_refl _, Nat.le_refl _⟩
  | a :: b :: r => by
    by_cases h : b.first - 1 ≤ m
    · rw [trimS_yes h]
      have := trimS_le m (b :: r)
      have e : (cat SegD.c (a :: b :: r)).wt = (a.c).wt + (cat SegD.c (b :: r)).wt := by rw [cat_cons, Cs.wt_app]
      exact ⟨Nat.le_trans this.1 (Nat.le_succ _), by omega⟩
    · rw [trimS_no h]
      exact ⟨Nat.le_refl _, Nat.le_refl _⟩
theorem bLogMark (l : LogD) (n : Int) (h : l.c.wt ≤ 1048576) (_ : i64ok n) : (fLogMark l n).1.c.wt ≤ 4611686018427387 ∧ (fLogMark l n).1.cntT ≤ 4611686018427387 := by
  have key : ∀ x : LogD, x.c.wt ≤ 1048576 → x.c.wt ≤ 4611686018427387 ∧ x.cntT ≤ 4611686018427387 := fun x hx => by
    have h1 : x.cntT = cts SegD.cnt x.segs := rfl
    have h0 : x.c.wt = x.segs.length + (cat SegD.c x.segs).wt + 0 := rfl
    have h2 : ∀ ys : List SegD, cts SegD.cnt ys = 2 * ys.length := fun ys => by
      induction ys with
      | nil => rfl
      | cons y ys ih => rw [cts, ih, List.length_cons]; show 1 + 1 + _ = _; omega
    rw [h1, h2]
    omega
  have h0 : l.c.wt = l.segs.length + (cat SegD.c l.segs).wt + 0 := rfl
  unfold fLogMark
  split
  · split
    · refine key _ ?_
      have := trimS_le n l.segs
      have e : (LogD.c ⟨trimS n l.segs, l.next, n⟩).wt = (trimS n l.segs).length + (cat SegD.c (trimS n l.segs)).wt + 0 := rfl
      show (LogD.c ⟨trimS n l.segs, l.next, n⟩).wt ≤ _
      omega
    · exact key _ h
  · exact key _ (Nat.zero_le _)
theorem own_none (w : World) (base e sz : Nat) : w.ownsRow base e sz (.slice none 0 0) 0 [] := ⟨by simp, .inl ⟨rfl, rfl⟩⟩
theorem seg_first {l : LogD} (h : logOkB l = true) : ∀ s ∈ l.segs, 1 ≤ s.first ∧ s.first ≤ 1000 := fun s hs => by
  obtain ⟨_, _, hf1, _, hsf, hnx, _, _⟩ := logOk_iff.1 h
  have := (segsF_first hsf).2 s hs
  omega


set_option maxRecDepth 100000 in
set_option maxHeartbeats 4000000 in
theorem iLogMark_any (x : LogD) (n : Int) (cs : List Value) (w : World) (hwt : x.c.wt ≤ 1048576) (hi : i64ok n) (h : Rep anyB w x.c cs) :
    Calls Try.prog 50 #[.agg cs.toArray, .int .i64 n] w fun e w' => ∃ cs', e = .returned (.tuple #[.agg cs'.toArray, .bool (fLogMark x n).2]) ∧ Mine w' w.heap.size (fLogMark x n).1.c cs' ∧ Below w.heap.size w w' := by
  have hw0 : x.c.wt = x.segs.length + (cat SegD.c x.segs).wt + 0 := rfl
  have HA := Lib.hid h
  have HW := Lib.hid hwt
  obtain ⟨A0, k0, rfl, _⟩ := LogD.open h
  have HSF := Lib.hid (@seg_first x)
  have HGD := Lib.hid (@logOk_iff x)
  obtain ⟨R, hR⟩ : ∃ R, R = fLogMark x n := ⟨_, rfl⟩
  rw [← hR]
  unfold fLogMark at hR
  obtain ⟨segs, next, mark⟩ := x
  simp only [] at hw0 hR HA HW HSF HGD ⊢
  have HR := Lib.hid hR; clear hR
  have hn1 : segs.length ≤ 1048576 := by omega
  clear h hwt hw0
  go_enter Try.func50, Try.ntmps50
  go_wp2_with fail
  refine (iLogOk_any ⟨segs, next, mark⟩ _ _ HW.out (HA.out.below (by repeat' (first | with_reducible exact Below.refl _ _ | with_reducible exact BW.out | with_reducible refine Below.setCell ?_ ?_ _ | with_reducible refine Below.alloc ?_ ?_ _ | with_reducible refine Below.drew ?_ | (simp; done) | (simp; omega) | omega)))).mono ?_; rintro e v1 ⟨rfl, hb⟩
  have SB := Lib.hid (Blk.below (blk2_0 _ _ _ _) hb)
  have ZB := Lib.hid (Blk.below (blk2_1 _ _ _ _) hb)
  have BW := Lib.hid (show Below w.heap.size w v1 from Below.trans (by repeat' (first | with_reducible exact Below.refl _ _ | with_reducible exact BW.out | with_reducible refine Below.setCell ?_ ?_ _ | with_reducible refine Below.alloc ?_ ?_ _ | with_reducible refine Below.drew ?_ | (simp; done) | (simp; omega) | omega)) (hb.mono (by first | (simp; done) | (simp; omega) | omega)))
  have HZ1 := Lib.hid (show w.heap.size + 1 + 1 ≤ v1.heap.size from Nat.le_trans (by simp) hb.size); clear hb
  cases hx : logOkB ⟨segs, next, mark⟩
  case false =>
    have hRz : R = (⟨[], 0, 0⟩, false) := by rw [HR.out, hx]; rfl
    subst hRz
    clear HR HSF HGD
    go_wp2_with (first | ((with_reducible show wpList _ _ _ ({ dst := _, op := Op.store 46 _ _, type := _, pos := _, after := _, guard := _ } :: _) _ _); refine wpList_store_row _ (w.heap.size + 1) 46 0 [.slice none 0 0, .int .i64 0, .int .i64 0] [] [.slice none 0 0, .int .i64 0, .int .i64 0] [] _ rfl rfl agg_Log ZB.out rfl rfl rfl (by simp [Value.oneCell']) ?_; intro v9 hzb hzg) | fail)
    exact bodyPost_cell2 rfl ⟨w.heap.size + 1, 0, none⟩ rfl [.slice none 0 0, .int .i64 0, .int .i64 0] _ rfl agg_Log rfl (blk_cells hzb) rfl ⟨_, rfl, own_log (xs := []) (own_none _ _ _ _), Below.grown BW.out hzg BW.out.size (fun k hk => by injection hk with hk; omega)⟩
  case true =>
    rw [hx, if_pos rfl] at HR
    have hgd := HGD.out.1 hx
    obtain ⟨_, _, _, _, _, hnx, hm0, hmn⟩ := hgd
    simp only [] at hnx hm0 hmn
    have HF := Lib.hid (HSF.out hx)
    clear HSF HGD hx
    go_wp2_with (first | ((with_reducible show wpList _ _ _ ({ dst := _, op := Op.load 46 _, type := _, pos := _, after := _, guard := _ } :: _) _ _); refine wpList_load_row _ ⟨w.heap.size, 0, none⟩ rfl [.slice A0 segs.length k0, .int .i64 next, .int .i64 mark] agg_Log rfl (blk_cells SB.out) ?_) | fail)
    refine (copyLog_any ⟨segs, next, mark⟩ _ _ HW.out (HA.out.below BW.out)).mono ?_; rintro e v2 ⟨cs', rfl, hM, hb⟩
    obtain ⟨A1, k1, rfl, hrow⟩ := log_own hM
    simp only [] at hrow ⊢
    clear hM
    have HO := Lib.hid hrow; clear hrow
    have X := Lib.hid (SB.out.below hb); clear SB
    have SB := Lib.hid X.out; clear X
    have X := Lib.hid (ZB.out.below hb); clear ZB
    have ZB := Lib.hid X.out; clear X
    have HZ2 := Lib.hid hb.size
    have X := Lib.hid (show Below w.heap.size w v2 from BW.out.trans (hb.mono BW.out.size)); clear BW hb
    have BW := Lib.hid X.out; clear X
    by_cases hin : mark ≤ n ∧ n ≤ next - 1
    · rw [if_pos hin] at HR
      have hRz : R = (⟨trimS n segs, next, n⟩, true) := HR.out
      subst hRz
      clear HR
      obtain ⟨hin1, hin2⟩ := hin
      have HIN := Lib.hid (inB_true hin1 hin2)
      go_wp2_with (first | ((with_reducible show wpList _ _ _ ({ dst := _, op := Op.store 46 _ _, type := _, pos := _, after := _, guard := _ } :: _) _ _); refine wpList_store_row _ v2.heap.size 46 0 [.slice A1 segs.length k1, .int .i64 next, .int .i64 mark] [] [.slice none 0 0, .int .i64 0, .int .i64 0] [] _ rfl rfl agg_Log (blk_new v2 _ _) rfl rfl rfl (by simp [Value.oneCell']) ?_; intro v3 hsb hsg; have HO3 := Lib.hid ((HO.out.alloc (.cells #[.slice none 0 0, .int .i64 0, .int .i64 0] 46)).kept hsg (.inr (fun e => by have := (HO.out.lt _ e).2; omega))); have HX := Lib.hid (show Blk v3 v2.heap.size 46 [.slice A1 segs.length k1, .int .i64 next, .int .i64 mark].toArray by simpa using hsb); have SB3 := Lib.hid ((SB.out.alloc (.cells #[.slice none 0 0, .int .i64 0, .int .i64 0] 46)).grown hsg (fun e => by have := SB.out.lt; omega)); have ZB3 := Lib.hid ((ZB.out.alloc (.cells #[.slice none 0 0, .int .i64 0, .int .i64 0] 46)).grown hsg (fun e => by have := ZB.out.lt; omega)); have BW3 := Lib.hid (Below.grown (BW.out.alloc BW.out.size _) hsg (Nat.le_trans BW.out.size (by simp)) (fun k hk => by injection hk with hk; have := BW.out.size; omega)); have HZ3 := Lib.hid (show v2.heap.size + 1 ≤ v3.heap.size from Nat.le_trans (by simp) hsg.size); have hq1 : v3.cell? ⟨w.heap.size, 1, none⟩ = some (.int .i64 next) := blk_cell0 (L := [.slice A0 segs.length k0, .int .i64 next, .int .i64 mark]) SB3.out 1 rfl; have hq2 : v3.cell? ⟨w.heap.size, 2, none⟩ = some (.int .i64 mark) := blk_cell0 (L := [.slice A0 segs.length k0, .int .i64 next, .int .i64 mark]) SB3.out 2 rfl; clear hsb hsg; have hq3 : v3.cell? ⟨v2.heap.size, 2, none⟩ = some (.int .i64 mark) := blk_cell0 (L := [.slice A1 segs.length k1, .int .i64 next, .int .i64 mark]) HX.out 2 rfl; have hfz : v3.frozen? ⟨v2.heap.size, 2, none⟩ = false := HX.out.frozen 2) | fail)
      refine (within_any _ _ _ _).mono ?_; rintro e w' ⟨rfl, rfl⟩
      rw [HIN.out]
      go_wp2_with fail
      have hne : (Value.slice A1 segs.length k1).ownBlock ≠ some v2.heap.size := fun e => by have := (HO.out.lt _ e).2; omega
      have hO4 : (v3.setCell ⟨v2.heap.size, 2, none⟩ (.int .i64 n)).ownsRow v1.heap.size 90 2 (.slice A1 segs.length k1) segs.length (segCells segs) := ownsRow_keep HO3.out (fun k hk => ⟨(HO3.out.lt k hk).1, Below.heap_setCell _ _ _ _ (fun e => hne (by rw [hk]; exact congrArg some e))⟩)
      have HO4 := Lib.hid hO4; clear hO4
      have ZB4 := Lib.hid (Blk.setOther ZB3.out (a := ⟨v2.heap.size, 2, none⟩) (by have := ZB.out.lt; simp; omega) (.int .i64 n))
      have BW4 := Lib.hid (Below.setCell BW3.out (p := ⟨v2.heap.size, 2, none⟩) BW.out.size (.int .i64 n))
      refine (trimmed_any v2.heap.size segs next n A1 k1 _ v1.heap.size (by rw [setCell_size]; have := HZ2.out; have := HZ3.out; omega) hn1 HF.out HO4.out hne (blk_put0 HX.out 2 (.int .i64 n))).mono ?_; rintro e v5 ⟨rfl, A2, k2, hXb, hrow2, _, hgr⟩
      have ZB5 := Lib.hid (ZB4.out.grown hgr (fun e => by have := ZB.out.lt; omega))
      have BW5 := Lib.hid (Below.grown BW4.out hgr BW4.out.size (fun k hk => by injection hk with hk; have := BW.out.size; omega))
      have HX5 := Lib.hid hXb
      have HO5 := Lib.hid hrow2
      clear hXb hrow2 hgr
      go_wp2_with (first | ((with_reducible show wpList _ _ _ ({ dst := _, op := Op.load 46 _, type := _, pos := _, after := _, guard := _ } :: _) _ _); refine wpList_load_row _ ⟨v2.heap.size, 0, none⟩ rfl [.slice A2 (trimS n segs).length k2, .int .i64 next, .int .i64 n] agg_Log rfl (blk_cells HX5.out) ?_) | ((with_reducible show wpList _ _ _ ({ dst := _, op := Op.store 46 _ _, type := _, pos := _, after := _, guard := _ } :: _) _ _); refine wpList_store_row _ (w.heap.size + 1) 46 0 [.slice A2 (trimS n segs).length k2, .int .i64 next, .int .i64 n] [] [.slice none 0 0, .int .i64 0, .int .i64 0] [] _ rfl rfl agg_Log ZB5.out rfl rfl rfl (by simp [Value.oneCell']) ?_; intro v9 hzb hzg) | fail)
      have hO9 := ownsRow_keep (base' := w.heap.size) HO5.out (w' := v9) (fun k hk => ⟨by have h1 := (HO5.out.lt k hk).1; have h2 := HZ1.out; omega, hzg.block k (HO5.out.lt k hk).2 (fun e => by injection e with e; have h1 := (HO5.out.lt k hk).1; have h2 := HZ1.out; omega)⟩)
      exact bodyPost_cell2 rfl ⟨w.heap.size + 1, 0, none⟩ rfl [.slice A2 (trimS n segs).length k2, .int .i64 next, .int .i64 n] _ rfl agg_Log rfl (blk_cells hzb) rfl ⟨_, rfl, own_log hO9, Below.grown BW5.out hzg BW5.out.size (fun k hk => by injection hk with hk; omega)⟩
    · rw [if_neg hin] at HR
      have hRz : R = (⟨segs, next, mark⟩, false) := HR.out
      subst hRz
      clear HR
      have HIN := Lib.hid (inB_false hin)
      have hin' := hin; clear hin
      go_wp2_with (first | ((with_reducible show wpList _ _ _ ({ dst := _, op := Op.store 46 _ _, type := _, pos := _, after := _, guard := _ } :: _) _ _); refine wpList_store_row _ v2.heap.size 46 0 [.slice A1 segs.length k1, .int .i64 next, .int .i64 mark] [] [.slice none 0 0, .int .i64 0, .int .i64 0] [] _ rfl rfl agg_Log (blk_new v2 _ _) rfl rfl rfl (by simp [Value.oneCell']) ?_; intro v3 hsb hsg; have HO3 := Lib.hid ((HO.out.alloc (.cells #[.slice none 0 0, .int .i64 0, .int .i64 0] 46)).kept hsg (.inr (fun e => by have := (HO.out.lt _ e).2; omega))); have HX := Lib.hid (show Blk v3 v2.heap.size 46 [.slice A1 segs.length k1, .int .i64 next, .int .i64 mark].toArray by simpa using hsb); have SB3 := Lib.hid ((SB.out.alloc (.cells #[.slice none 0 0, .int .i64 0, .int .i64 0] 46)).grown hsg (fun e => by have := SB.out.lt; omega)); have ZB3 := Lib.hid ((ZB.out.alloc (.cells #[.slice none 0 0, .int .i64 0, .int .i64 0] 46)).grown hsg (fun e => by have := ZB.out.lt; omega)); have BW3 := Lib.hid (Below.grown (BW.out.alloc BW.out.size _) hsg (Nat.le_trans BW.out.size (by simp)) (fun k hk => by injection hk with hk; have := BW.out.size; omega)); have HZ3 := Lib.hid (show v2.heap.size + 1 ≤ v3.heap.size from Nat.le_trans (by simp) hsg.size); have hq1 : v3.cell? ⟨w.heap.size, 1, none⟩ = some (.int .i64 next) := blk_cell0 (L := [.slice A0 segs.length k0, .int .i64 next, .int .i64 mark]) SB3.out 1 rfl; have hq2 : v3.cell? ⟨w.heap.size, 2, none⟩ = some (.int .i64 mark) := blk_cell0 (L := [.slice A0 segs.length k0, .int .i64 next, .int .i64 mark]) SB3.out 2 rfl; clear hsb hsg) | fail)
      refine (within_any _ _ _ _).mono ?_; rintro e w' ⟨rfl, rfl⟩
      rw [HIN.out]
      go_wp2_with (first | ((with_reducible show wpList _ _ _ ({ dst := _, op := Op.load 46 _, type := _, pos := _, after := _, guard := _ } :: _) _ _); refine wpList_load_row _ ⟨v2.heap.size, 0, none⟩ rfl [.slice A1 segs.length k1, .int .i64 next, .int .i64 mark] agg_Log rfl (blk_cells HX.out) ?_) | ((with_reducible show wpList _ _ _ ({ dst := _, op := Op.store 46 _ _, type := _, pos := _, after := _, guard := _ } :: _) _ _); refine wpList_store_row _ (w.heap.size + 1) 46 0 [.slice A1 segs.length k1, .int .i64 next, .int .i64 mark] [] [.slice none 0 0, .int .i64 0, .int .i64 0] [] _ rfl rfl agg_Log ZB3.out rfl rfl rfl (by simp [Value.oneCell']) ?_; intro v9 hzb hzg) | fail)
      (have hO9 := ownsRow_keep (base' := w.heap.size) HO3.out (w' := v9) (fun k hk => ⟨by have h1 := (HO3.out.lt k hk).1; have h2 := HZ1.out; omega, hzg.block k (HO3.out.lt k hk).2 (fun e => by injection e with e; have h1 := (HO3.out.lt k hk).1; have h2 := HZ1.out; omega)⟩); exact bodyPost_cell2 rfl ⟨w.heap.size + 1, 0, none⟩ rfl [.slice A1 segs.length k1, .int .i64 next, .int .i64 mark] _ rfl agg_Log rfl (blk_cells hzb) rfl ⟨_, rfl, own_log hO9, Below.grown BW3.out hzg BW3.out.size (fun k hk => by injection hk with hk; omega)⟩)


set_option maxRecDepth 100000 in
set_option maxHeartbeats 4000000 in
theorem sLogMark_any (x : LogD) (n : Int) (cs : List Value) (w : World) (hwt : x.c.wt ≤ 1048576) (hi : i64ok n) (h : Rep anyB w x.c cs) :
    Calls Try.prog 49 #[.agg cs.toArray, .int .i64 n] w fun e w' => ∃ cs', e = .returned (.tuple #[.agg cs'.toArray, .bool (fLogMark x n).2]) ∧ Mine w' w.heap.size (fLogMark x n).1.c cs' ∧ Below w.heap.size w w' := by
  have hw0 : x.c.wt = x.segs.length + (cat SegD.c x.segs).wt + 0 := rfl
  have HA := Lib.hid h
  have HW := Lib.hid hwt
  obtain ⟨A0, k0, rfl, _⟩ := LogD.open h
  have HSF := Lib.hid (@seg_first x)
  have HGD := Lib.hid (@logOk_iff x)
  obtain ⟨R, hR⟩ : ∃ R, R = fLogMark x n := ⟨_, rfl⟩
  rw [← hR]
  unfold fLogMark at hR
  obtain ⟨segs, next, mark⟩ := x
  simp only [] at hw0 hR HA HW HSF HGD ⊢
  have HR := Lib.hid hR; clear hR
  have hn1 : segs.length ≤ 1048576 := by omega
  clear h hwt hw0
  go_enter Try.func49, Try.ntmps49
  go_wp2_with fail
  refine (sLogOk_any ⟨segs, next, mark⟩ _ _ HW.out (HA.out.below (by repeat' (first | with_reducible exact Below.refl _ _ | with_reducible exact BW.out | with_reducible refine Below.setCell ?_ ?_ _ | with_reducible refine Below.alloc ?_ ?_ _ | with_reducible refine Below.drew ?_ | (simp; done) | (simp; omega) | omega)))).mono ?_; rintro e v1 ⟨rfl, hb⟩
  have SB := Lib.hid (Blk.below (blk2_0 _ _ _ _) hb)
  have ZB := Lib.hid (Blk.below (blk2_1 _ _ _ _) hb)
  have BW := Lib.hid (show Below w.heap.size w v1 from Below.trans (by repeat' (first | with_reducible exact Below.refl _ _ | with_reducible exact BW.out | with_reducible refine Below.setCell ?_ ?_ _ | with_reducible refine Below.alloc ?_ ?_ _ | with_reducible refine Below.drew ?_ | (simp; done) | (simp; omega) | omega)) (hb.mono (by first | (simp; done) | (simp; omega) | omega)))
  have HZ1 := Lib.hid (show w.heap.size + 1 + 1 ≤ v1.heap.size from Nat.le_trans (by simp) hb.size); clear hb
  cases hx : logOkB ⟨segs, next, mark⟩
  case false =>
    have hRz : R = (⟨[], 0, 0⟩, false) := by rw [HR.out, hx]; rfl
    subst hRz
    clear HR HSF HGD
    go_wp2_with (first | ((with_reducible show wpList _ _ _ ({ dst := _, op := Op.store 46 _ _, type := _, pos := _, after := _, guard := _ } :: _) _ _); refine wpList_store_row _ (w.heap.size + 1) 46 0 [.slice none 0 0, .int .i64 0, .int .i64 0] [] [.slice none 0 0, .int .i64 0, .int .i64 0] [] _ rfl rfl agg_Log ZB.out rfl rfl rfl (by simp [Value.oneCell']) ?_; intro v9 hzb hzg) | fail)
    exact bodyPost_cell2 rfl ⟨w.heap.size + 1, 0, none⟩ rfl [.slice none 0 0, .int .i64 0, .int .i64 0] _ rfl agg_Log rfl (blk_cells hzb) rfl ⟨_, rfl, own_log (xs := []) (own_none _ _ _ _), Below.grown BW.out hzg BW.out.size (fun k hk => by injection hk with hk; omega)⟩
  case true =>
    rw [hx, if_pos rfl] at HR
    have hgd := HGD.out.1 hx
    obtain ⟨_, _, _, _, _, hnx, hm0, hmn⟩ := hgd
    simp only [] at hnx hm0 hmn
    have HF := Lib.hid (HSF.out hx)
    clear HSF HGD hx
    go_wp2_with (first | ((with_reducible show wpList _ _ _ ({ dst := _, op := Op.load 46 _, type := _, pos := _, after := _, guard := _ } :: _) _ _); refine wpList_load_row _ ⟨w.heap.size, 0, none⟩ rfl [.slice A0 segs.length k0, .int .i64 next, .int .i64 mark] agg_Log rfl (blk_cells SB.out) ?_) | fail)
    refine (l6Copy_any ⟨segs, next, mark⟩ _ _ HW.out (HA.out.below BW.out)).mono ?_; rintro e v2 ⟨cs', rfl, hM, hb⟩
    obtain ⟨A1, k1, rfl, hrow⟩ := log_own hM
    simp only [] at hrow ⊢
    clear hM
    have HO := Lib.hid hrow; clear hrow
    have X := Lib.hid (SB.out.below hb); clear SB
    have SB := Lib.hid X.out; clear X
    have X := Lib.hid (ZB.out.below hb); clear ZB
    have ZB := Lib.hid X.out; clear X
    have HZ2 := Lib.hid hb.size
    have X := Lib.hid (show Below w.heap.size w v2 from BW.out.trans (hb.mono BW.out.size)); clear BW hb
    have BW := Lib.hid X.out; clear X
    by_cases hin : mark ≤ n ∧ n ≤ next - 1
    · rw [if_pos hin] at HR
      have hRz : R = (⟨trimS n segs, next, n⟩, true) := HR.out
      subst hRz
      clear HR
      obtain ⟨hin1, hin2⟩ := hin
      have HIN := Lib.hid (inB_true hin1 hin2)
      go_wp2_with (first | ((with_reducible show wpList _ _ _ ({ dst := _, op := Op.store 46 _ _, type := _, pos := _, after := _, guard := _ } :: _) _ _); refine wpList_store_row _ v2.heap.size 46 0 [.slice A1 segs.length k1, .int .i64 next, .int .i64 mark] [] [.slice none 0 0, .int .i64 0, .int .i64 0] [] _ rfl rfl agg_Log (blk_new v2 _ _) rfl rfl rfl (by simp [Value.oneCell']) ?_; intro v3 hsb hsg; have HO3 := Lib.hid ((HO.out.alloc (.cells #[.slice none 0 0, .int .i64 0, .int .i64 0] 46)).kept hsg (.inr (fun e => by have := (HO.out.lt _ e).2; omega))); have HX := Lib.hid (show Blk v3 v2.heap.size 46 [.slice A1 segs.length k1, .int .i64 next, .int .i64 mark].toArray by simpa using hsb); have SB3 := Lib.hid ((SB.out.alloc (.cells #[.slice none 0 0, .int .i64 0, .int .i64 0] 46)).grown hsg (fun e => by have := SB.out.lt; omega)); have ZB3 := Lib.hid ((ZB.out.alloc (.cells #[.slice none 0 0, .int .i64 0, .int .i64 0] 46)).grown hsg (fun e => by have := ZB.out.lt; omega)); have BW3 := Lib.hid (Below.grown (BW.out.alloc BW.out.size _) hsg (Nat.le_trans BW.out.size (by simp)) (fun k hk => by injection hk with hk; have := BW.out.size; omega)); have HZ3 := Lib.hid (show v2.heap.size + 1 ≤ v3.heap.size from Nat.le_trans (by simp) hsg.size); have hq1 : v3.cell? ⟨w.heap.size, 1, none⟩ = some (.int .i64 next) := blk_cell0 (L := [.slice A0 segs.length k0, .int .i64 next, .int .i64 mark]) SB3.out 1 rfl; have hq2 : v3.cell? ⟨w.heap.size, 2, none⟩ = some (.int .i64 mark) := blk_cell0 (L := [.slice A0 segs.length k0, .int .i64 next, .int .i64 mark]) SB3.out 2 rfl; clear hsb hsg; have hq3 : v3.cell? ⟨v2.heap.size, 2, none⟩ = some (.int .i64 mark) := blk_cell0 (L := [.slice A1 segs.length k1, .int .i64 next, .int .i64 mark]) HX.out 2 rfl; have hfz : v3.frozen? ⟨v2.heap.size, 2, none⟩ = false := HX.out.frozen 2; have HXs := Lib.hid (blk_put0 HX.out 2 (.int .i64 n))) | ((with_reducible show wpList _ _ _ ({ dst := _, op := Op.load 46 _, type := _, pos := _, after := _, guard := _ } :: _) _ _); refine wpList_load_row _ ⟨v2.heap.size, 0, none⟩ rfl [.slice A1 segs.length k1, .int .i64 next, .int .i64 n] agg_Log rfl (blk_cells HXs.out) ?_) | fail)
      have hne : (Value.slice A1 segs.length k1).ownBlock ≠ some v2.heap.size := fun e => by have := (HO.out.lt _ e).2; omega
      have hO4 : (v3.setCell ⟨v2.heap.size, 2, none⟩ (.int .i64 n)).ownsRow v1.heap.size 90 2 (.slice A1 segs.length k1) segs.length (segCells segs) := ownsRow_keep HO3.out (fun k hk => ⟨(HO3.out.lt k hk).1, Below.heap_setCell _ _ _ _ (fun e => hne (by rw [hk]; exact congrArg some e))⟩)
      have HO4 := Lib.hid hO4; clear hO4
      have ZB4 := Lib.hid (Blk.setOther ZB3.out (a := ⟨v2.heap.size, 2, none⟩) (by have := ZB.out.lt; simp; omega) (.int .i64 n))
      have BW4 := Lib.hid (Below.setCell BW3.out (p := ⟨v2.heap.size, 2, none⟩) BW.out.size (.int .i64 n))
      refine (l6Trim_any ⟨segs, next, n⟩ _ _ v1.heap.size (by rw [setCell_size]; have := HZ2.out; have := HZ3.out; omega) hn1 HF.out (own_log HO4.out)).mono ?_; rintro e v5 ⟨cs', rfl, hM, hb⟩
      obtain ⟨A2, k2, rfl, hrow2⟩ := log_own hM
      simp only [] at hrow2 ⊢
      have ZB5 := Lib.hid (ZB4.out.below hb)
      have BW5 := Lib.hid (BW4.out.trans (hb.mono BW4.out.size))
      have HO5 := Lib.hid hrow2
      clear hM hb hrow2
      go_wp2_with (first | ((with_reducible show wpList _ _ _ ({ dst := _, op := Op.store 46 _ _, type := _, pos := _, after := _, guard := _ } :: _) _ _); refine wpList_store_row _ (w.heap.size + 1) 46 0 [.slice A2 (trimS n segs).length k2, .int .i64 next, .int .i64 n] [] [.slice none 0 0, .int .i64 0, .int .i64 0] [] _ rfl rfl agg_Log ZB5.out rfl rfl rfl (by simp [Value.oneCell']) ?_; intro v9 hzb hzg) | fail)
      have hO9 := ownsRow_keep (base' := w.heap.size) HO5.out (w' := v9) (fun k hk => ⟨by have h1 := (HO5.out.lt k hk).1; have h2 := HZ1.out; omega, hzg.block k (HO5.out.lt k hk).2 (fun e => by injection e with e; have h1 := (HO5.out.lt k hk).1; have h2 := HZ1.out; omega)⟩)
      exact bodyPost_cell2 rfl ⟨w.heap.size + 1, 0, none⟩ rfl [.slice A2 (trimS n segs).length k2, .int .i64 next, .int .i64 n] _ rfl agg_Log rfl (blk_cells hzb) rfl ⟨_, rfl, own_log hO9, Below.grown BW5.out hzg BW5.out.size (fun k hk => by injection hk with hk; omega)⟩
    · rw [if_neg hin] at HR
      have hRz : R = (⟨segs, next, mark⟩, false) := HR.out
      subst hRz
      clear HR
      have HIN := Lib.hid (inB_false hin)
      skip
      go_wp2_with (first | ((with_reducible show wpList _ _ _ ({ dst := _, op := Op.store 46 _ _, type := _, pos := _, after := _, guard := _ } :: _) _ _); refine wpList_store_row _ v2.heap.size 46 0 [.slice A1 segs.length k1, .int .i64 next, .int .i64 mark] [] [.slice none 0 0, .int .i64 0, .int .i64 0] [] _ rfl rfl agg_Log (blk_new v2 _ _) rfl rfl rfl (by simp [Value.oneCell']) ?_; intro v3 hsb hsg; have HO3 := Lib.hid ((HO.out.alloc (.cells #[.slice none 0 0, .int .i64 0, .int .i64 0] 46)).kept hsg (.inr (fun e => by have := (HO.out.lt _ e).2; omega))); have HX := Lib.hid (show Blk v3 v2.heap.size 46 [.slice A1 segs.length k1, .int .i64 next, .int .i64 mark].toArray by simpa using hsb); have SB3 := Lib.hid ((SB.out.alloc (.cells #[.slice none 0 0, .int .i64 0, .int .i64 0] 46)).grown hsg (fun e => by have := SB.out.lt; omega)); have ZB3 := Lib.hid ((ZB.out.alloc (.cells #[.slice none 0 0, .int .i64 0, .int .i64 0] 46)).grown hsg (fun e => by have := ZB.out.lt; omega)); have BW3 := Lib.hid (Below.grown (BW.out.alloc BW.out.size _) hsg (Nat.le_trans BW.out.size (by simp)) (fun k hk => by injection hk with hk; have := BW.out.size; omega)); have HZ3 := Lib.hid (show v2.heap.size + 1 ≤ v3.heap.size from Nat.le_trans (by simp) hsg.size); have hq1 : v3.cell? ⟨w.heap.size, 1, none⟩ = some (.int .i64 next) := blk_cell0 (L := [.slice A0 segs.length k0, .int .i64 next, .int .i64 mark]) SB3.out 1 rfl; have hq2 : v3.cell? ⟨w.heap.size, 2, none⟩ = some (.int .i64 mark) := blk_cell0 (L := [.slice A0 segs.length k0, .int .i64 next, .int .i64 mark]) SB3.out 2 rfl; clear hsb hsg) | ((with_reducible show wpList _ _ _ ({ dst := _, op := Op.load 46 _, type := _, pos := _, after := _, guard := _ } :: _) _ _); refine wpList_load_row _ ⟨v2.heap.size, 0, none⟩ rfl [.slice A1 segs.length k1, .int .i64 next, .int .i64 mark] agg_Log rfl (blk_cells HX.out) ?_) | ((with_reducible show wpList _ _ _ ({ dst := _, op := Op.store 46 _ _, type := _, pos := _, after := _, guard := _ } :: _) _ _); refine wpList_store_row _ (w.heap.size + 1) 46 0 [.slice A1 segs.length k1, .int .i64 next, .int .i64 mark] [] [.slice none 0 0, .int .i64 0, .int .i64 0] [] _ rfl rfl agg_Log ZB3.out rfl rfl rfl (by simp [Value.oneCell']) ?_; intro v9 hzb hzg) | fail)
      all_goals (have hO9 := ownsRow_keep (base' := w.heap.size) HO3.out (w' := v9) (fun k hk => ⟨by have h1 := (HO3.out.lt k hk).1; have h2 := HZ1.out; omega, hzg.block k (HO3.out.lt k hk).2 (fun e => by injection e with e; have h1 := (HO3.out.lt k hk).1; have h2 := HZ1.out; omega)⟩); exact bodyPost_cell2 rfl ⟨w.heap.size + 1, 0, none⟩ rfl [.slice A1 segs.length k1, .int .i64 next, .int .i64 mark] _ rfl agg_Log rfl (blk_cells hzb) rfl ⟨_, rfl, own_log hO9, Below.grown BW3.out hzg BW3.out.size (fun k hk => by injection hk with hk; omega)⟩)

end Go.Proofs.Ytifdkjddiohahaa
