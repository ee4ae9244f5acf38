/-
  A log cut: (Seg).records, impl.LogCut, spec.LogCut. Conditions: a bound on the sizes.
-/
import Derived.Test.YtifdkjddiohahaaLogP
import Derived.Lib.MinMax
namespace Go.Proofs.Ytifdkjddiohahaa
open Go.RowKit

theorem segCells_get {segs : List SegD} {m : Nat} (h : segs.length = m + 1) : (segCells segs)[m * 2]? = some (.int .i64 (lastS segs).first) ∧ (segCells segs)[m * 2 + 1]? = some (.string (bs (lastS segs).text)) := by
  obtain ⟨xs, s, rfl⟩ := snoc_of (xs := segs) (by omega)
  rw [lastS_snoc]
  have hx : xs.length = m := by simpa using h
  have e : ∀ ys zs : List SegD, segCells (ys ++ zs) = segCells ys ++ segCells zs := fun ys zs => by
    induction ys with
    | nil => rfl
    | cons y ys ih => rw [List.cons_append, segCells, ih, segCells]; rfl
  have hl := segCells_length xs
  rw [e, List.getElem?_append_right (by omega), List.getElem?_append_right (by omega), hl, hx]
  rw [show m * 2 - m * 2 = 0 by omega, show m * 2 + 1 - m * 2 = 1 by omega]
  exact ⟨rfl, rfl⟩
theorem segCells_app (ys zs : List SegD) : segCells (ys ++ zs) = segCells ys ++ segCells zs := by
  induction ys with
  | nil => rfl
  | cons y ys ih => rw [List.cons_append, segCells, ih, segCells]; rfl
theorem segCells_set {segs : List SegD} {m : Nat} (h : segs.length = m + 1) (t : List UInt8) : (segCells segs).set (m * 2 + 1) (.string (bs t)) = segCells (setLast segs ⟨(lastS segs).first, t⟩) := by
  obtain ⟨xs, s, rfl⟩ := snoc_of (xs := segs) (by omega)
  rw [lastS_snoc, setLast_snoc]
  have hx : xs.length = m := by simpa using h
  have hl := segCells_length xs
  rw [segCells_app, segCells_app, List.set_append_right _ _ (by omega), hl, hx, show m * 2 + 1 - m * 2 = 1 by omega]
  rfl
theorem lastS_setLast {xs : List SegD} (s : SegD) (h : 1 ≤ xs.length) : lastS (setLast xs s) = s := by
  obtain ⟨ys, y, rfl⟩ := snoc_of h
  rw [setLast_snoc, lastS_snoc]
theorem _root_.Go.World.ownsRow.keptBelow {w w' : World} {base e sz n : Nat} {v : Value} {xs : List Value} (h : w.ownsRow base e sz v n xs) (hb : Below w.heap.size w w') : w'.ownsRow base e sz v n xs :=
  ownsRow_keep h (fun b hk => ⟨(h.lt b hk).1, hb.block b (h.lt b hk).2⟩)
theorem seg_row {w : World} {base g m c : Nat} {segs : List SegD} {lf : Int} {lt : List UInt8} (h : w.ownsRow base 90 2 (.slice (some ⟨g, 0, none⟩) (m + 1) c) (m + 1) (segCells segs)) (hl : segs.length = m + 1) (hs : lastS segs = ⟨lf, lt⟩) :
    ∀ j v, [Value.int .i64 lf, Value.string (bs lt)][j]? = some v → w.cell? ((⟨g, m * 2, none⟩ : Addr).add j) = some v := by
  intro j v hv
  have hg := segCells_get hl
  rw [hs] at hg
  rw [add_plain]
  match j, hv with
  | 0, hv =>
    injection hv with hv
    subst hv
    have := World.ownsRow.cells (g := g) h rfl _ _ hg.1
    rwa [add_plain, Nat.zero_add] at this
  | 1, hv =>
    injection hv with hv
    subst hv
    have := World.ownsRow.cells (g := g) h rfl _ _ hg.2
    rwa [add_plain, Nat.zero_add] at this
theorem setLast_length (xs : List SegD) (s : SegD) : (setLast xs s).length = xs.length := by simp [setLast]
theorem lastS_mem {xs : List SegD} (h : 1 ≤ xs.length) : lastS xs ∈ xs := by
  obtain ⟨ys, s, rfl⟩ := snoc_of h
  rw [lastS_snoc]; simp
theorem last_wt (xs : List SegD) : (lastS xs).text.length ≤ (cat SegD.c xs).wt := by
  rcases Nat.eq_zero_or_pos xs.length with h | h
  · have : xs = [] := List.eq_nil_of_length_eq_zero h
    subst this
    simp [lastS]
  · have := seg_wt_le (xs := xs) (xs.length - 1) (by omega)
    unfold lastS
    rw [List.getD_eq_getElem?_getD, List.getElem?_eq_getElem (by omega)]
    exact this
theorem log_key (x : LogD) (hx : x.c.wt ≤ 2000000) : x.c.wt ≤ 4611686018427387 ∧ x.cntT ≤ 4611686018427387 := by
  have h1 : x.cntT = cts SegD.cnt x.segs := rfl
  have h0 : x.c.wt = x.segs.length + (cat SegD.c x.segs).wt + 0 := rfl
  have h2 : ∀ ys : List SegD, cts SegD.cnt ys = 2 * ys.length := fun ys => by
    induction ys with
    | nil => rfl
    | cons y ys ih => rw [cts, ih, List.length_cons]; show 1 + 1 + _ = _; omega
  rw [h1, h2]
  omega
theorem setLast_wt {xs : List SegD} {f : Int} {t : List UInt8} (h : 1 ≤ xs.length) : (cat SegD.c (setLast xs ⟨f, t⟩)).wt + (lastS xs).text.length = (cat SegD.c xs).wt + t.length := by
  obtain ⟨ys, y, rfl⟩ := snoc_of h
  rw [setLast_snoc, lastS_snoc, cat_app, cat_app, Cs.wt_app, Cs.wt_app, cat_one, cat_one]
  have e1 : (SegD.c ⟨f, t⟩).wt = t.length + 0 := rfl
  have e2 : (SegD.c y).wt = y.text.length + 0 := rfl
  omega
theorem bLogCut (l : LogD) (n : Int) (h : l.c.wt ≤ 1048576) (_ : i64ok n) : (fLogCut l n).1.c.wt ≤ 4611686018427387 ∧ (fLogCut l n).1.cntT ≤ 4611686018427387 := by
  have h0 : l.c.wt = l.segs.length + (cat SegD.c l.segs).wt + 0 := rfl
  refine log_key _ ?_
  unfold fLogCut
  split
  · rename_i hg
    have hl := (logOk_iff.1 hg).1
    have hs := setLast_wt (xs := l.segs) (f := (lastS l.segs).first) (t := (lastS l.segs).text.take (endU ((lastS l.segs).text.take n.toNat))) hl
    have hlen := setLast_length l.segs ⟨(lastS l.segs).first, (lastS l.segs).text.take (endU ((lastS l.segs).text.take n.toNat))⟩
    have e : (cutL l n.toNat).c.wt = (setLast l.segs ⟨(lastS l.segs).first, (lastS l.segs).text.take (endU ((lastS l.segs).text.take n.toNat))⟩).length + (cat SegD.c (setLast l.segs ⟨(lastS l.segs).first, (lastS l.segs).text.take (endU ((lastS l.segs).text.take n.toNat))⟩)).wt + 0 := rfl
    rw [List.length_take] at hs
    show (cutL l n.toNat).c.wt ≤ _
    rw [e, hlen]
    omega
  · exact Nat.zero_le _

set_option maxRecDepth 100000 in
set_option maxHeartbeats 1000000 in
theorem records_any (f : Int) (t : List UInt8) (w : World) (ht : t.length ≤ 1048576) :
    Calls Try.prog 92 #[.agg #[.int .i64 f, .string (bs t)]] w fun e w' => e = .returned (.int .i64 (cntU t : Nat)) ∧ Below w.heap.size w w' := by
  have hc : cntU t = (unframeL t).1.length := rfl
  rw [hc]
  have HU := Lib.hid (fun W => iUnframe_any t W (by omega))
  generalize unframeL t = U at *
  clear hc
  go_enter Try.func92, Try.ntmps92
  go_wp2_with fail
  refine (HU.out _).mono ?_; rintro e v1 ⟨v, rfl, hown, hb⟩
  obtain ⟨A, c, rfl, _⟩ := SlR.of_own hown
  have B1 := Lib.hid hb; clear hb hown
  go_wp2
  go_ret
  exact ⟨ret_eq (by first | rfl | simp), Below.trans (by repeat' (first | with_reducible exact Below.refl _ _ | with_reducible exact BW.out | with_reducible refine Below.setCell ?_ ?_ _ | with_reducible refine Below.alloc ?_ ?_ _ | with_reducible refine Below.drew ?_ | (simp; done) | (simp; omega) | omega)) (B1.out.mono (by first | (simp; done) | (simp; omega) | omega))⟩


set_option maxRecDepth 100000 in
set_option maxHeartbeats 4000000 in
theorem iLogCut_any (x : LogD) (n : Int) (cs : List Value) (w : World) (hwt : x.c.wt ≤ 1048576) (hi : i64ok n) (h : Rep anyB w x.c cs) :
    Calls Try.prog 52 #[.agg cs.toArray, .int .i64 n] w fun e w' => ∃ cs', e = .returned (.tuple #[.agg cs'.toArray, .bool (fLogCut x n).2]) ∧ Mine w' w.heap.size (fLogCut x n).1.c cs' ∧ Below w.heap.size w w' := by
  have hw0 : x.c.wt = x.segs.length + (cat SegD.c x.segs).wt + 0 := rfl
  have HA := Lib.hid h
  have HW := Lib.hid hwt
  obtain ⟨A0, k0, rfl, _⟩ := LogD.open h
  have HSF := Lib.hid (@seg_first x)
  have HGD := Lib.hid (@logOk_iff x)
  obtain ⟨R, hR⟩ : ∃ R, R = fLogCut x n := ⟨_, rfl⟩
  rw [← hR]
  obtain ⟨segs, next, mark⟩ := x
  simp only [] at hw0 hR HA HW HSF HGD ⊢
  have HR := Lib.hid hR; clear hR
  have hn1 : segs.length ≤ 1048576 := by omega
  have hwl := fun j hj => seg_wt_le (xs := segs) j hj
  have HWL := Lib.hid hwl; clear hwl
  have hw1 : (cat SegD.c segs).wt ≤ 1048576 := by omega
  clear h hwt hw0
  go_enter Try.func52, Try.ntmps52
  go_wp2_with fail
  refine (iLogOk_any ⟨segs, next, mark⟩ _ _ HW.out (HA.out.below (by repeat' (first | with_reducible exact Below.refl _ _ | with_reducible exact BW.out | with_reducible refine Below.setCell ?_ ?_ _ | with_reducible refine Below.alloc ?_ ?_ _ | with_reducible refine Below.drew ?_ | (simp; done) | (simp; omega) | omega)))).mono ?_; rintro e v1 ⟨rfl, hb⟩
  have SB := Lib.hid (Blk.below (blk2_0 _ _ _ _) hb)
  have ZB := Lib.hid (Blk.below (blk2_1 _ _ _ _) hb)
  have BW := Lib.hid (show Below w.heap.size w v1 from Below.trans (by repeat' (first | with_reducible exact Below.refl _ _ | with_reducible exact BW.out | with_reducible refine Below.setCell ?_ ?_ _ | with_reducible refine Below.alloc ?_ ?_ _ | with_reducible refine Below.drew ?_ | (simp; done) | (simp; omega) | omega)) (hb.mono (by first | (simp; done) | (simp; omega) | omega)))
  have HZ1 := Lib.hid (show w.heap.size + 1 + 1 ≤ v1.heap.size from Nat.le_trans (by simp) hb.size); clear hb
  cases hx : logOkB ⟨segs, next, mark⟩
  case false =>
    have hRz : R = (⟨[], 0, 0⟩, false) := by rw [HR.out]; unfold fLogCut; rw [hx]; first | rfl | (rw [if_neg (by simp)])
    subst hRz
    clear HR HSF HGD
    go_wp2_with (first | ((with_reducible show wpList _ _ _ ({ dst := _, op := Op.store 46 _ _, type := _, pos := _, after := _, guard := _ } :: _) _ _); refine wpList_store_row _ (w.heap.size + 1) 46 0 [.slice none 0 0, .int .i64 0, .int .i64 0] [] [.slice none 0 0, .int .i64 0, .int .i64 0] [] _ rfl rfl agg_Log ZB.out rfl rfl rfl (by simp [Value.oneCell']) ?_; intro v9 hzb hzg) | fail)
    exact bodyPost_cell2 rfl ⟨w.heap.size + 1, 0, none⟩ rfl [.slice none 0 0, .int .i64 0, .int .i64 0] _ rfl agg_Log rfl (blk_cells hzb) rfl ⟨_, rfl, own_log (xs := []) (own_none _ _ _ _), Below.grown BW.out hzg BW.out.size (fun k hk => by injection hk with hk; omega)⟩
  case true =>
    have hgd := HGD.out.1 hx
    have HLG := Lib.hid hgd
    obtain ⟨hl1, _, _, _, _, hnx, hm0, hmn⟩ := hgd
    simp only [] at hl1 hnx hm0 hmn
    have HF := Lib.hid (HSF.out hx)
    have HXX := Lib.hid hx
    clear HSF HGD hx
    obtain ⟨m, hm⟩ : ∃ m, segs.length = m + 1 := ⟨segs.length - 1, by omega⟩
    have HM := Lib.hid hm; clear hm
    clear hl1
    go_wp2_with (first | ((with_reducible show wpList _ _ _ ({ dst := _, op := Op.load 46 _, type := _, pos := _, after := _, guard := _ } :: _) _ _); refine wpList_load_row _ ⟨w.heap.size, 0, none⟩ rfl [.slice A0 segs.length k0, .int .i64 next, .int .i64 mark] agg_Log rfl (blk_cells SB.out) ?_) | fail)
    refine (copyLog_any ⟨segs, next, mark⟩ _ _ HW.out (HA.out.below BW.out)).mono ?_; rintro e v2 ⟨cs', rfl, hM, hb⟩
    obtain ⟨A1, k1, rfl, hrow⟩ := log_own hM
    simp only [] at hrow ⊢
    rw [HM.out] at hrow ⊢
    obtain ⟨g, c', he, hg1, hg2⟩ := own_form hrow (by omega)
    injection he with he _ hec
    subst he hec
    have hcap : m + 1 ≤ k1 := own_cap hrow
    clear hM
    have HO := Lib.hid hrow; clear hrow
    have X := Lib.hid (SB.out.below hb); clear SB
    have SB := Lib.hid X.out; clear X
    have X := Lib.hid (ZB.out.below hb); clear ZB
    have ZB := Lib.hid X.out; clear X
    have HZ2 := Lib.hid hb.size
    have X := Lib.hid (show Below w.heap.size w v2 from BW.out.trans (hb.mono BW.out.size)); clear BW hb
    have BW := Lib.hid X.out; clear X
    obtain ⟨lf, lt, hls⟩ : ∃ lf lt, lastS segs = ⟨lf, lt⟩ := ⟨_, _, rfl⟩
    have hlb := HF.out _ (lastS_mem (xs := segs) (by have := HM.out; omega))
    rw [hls] at hlb
    simp only [] at hlb
    obtain ⟨hlf1, hlf2⟩ := hlb
    have hll := last_wt segs
    rw [hls] at hll
    simp only [] at hll
    have hlen : lt.length ≤ 1048576 := by omega
    have HLS := Lib.hid hls; clear hls hll
    have hmb : m ≤ 1048576 := by have := HM.out; omega
    obtain ⟨k, hk⟩ : ∃ k : Nat, k = min n.toNat lt.length := ⟨_, rfl⟩
    have hkn : min (max n 0) (lt.length : Int) = (k : Int) := by omega
    have hkl : k ≤ lt.length := by omega
    have hRz : R = (cutL ⟨segs, next, mark⟩ k, true) := by
      rw [HR.out]; unfold fLogCut; rw [HXX.out, if_pos rfl]
      congr 1
      by_cases hh : n.toNat ≤ lt.length
      · rw [hk, Nat.min_eq_left hh]
      · have h1 := cut_all (k := n.toNat) HLG.out (by rw [show (lastS (LogD.segs ⟨segs, next, mark⟩)) = lastS segs from rfl, HLS.out]; simp only []; omega)
        have h2 := cut_all (k := k) HLG.out (by rw [show (lastS (LogD.segs ⟨segs, next, mark⟩)) = lastS segs from rfl, HLS.out]; simp only []; omega)
        rw [h1, h2]
    have HKN := Lib.hid hkn; clear hkn hk
    have hcg := segCells_get HM.out
    rw [HLS.out] at hcg
    simp only [] at hcg
    have HCG := Lib.hid hcg; clear hcg
    have hHE := endU_le (lt.take k)
    rw [List.length_take, Nat.min_eq_left hkl] at hHE
    have hcc := cntU_le (lt.take k)
    rw [List.length_take, Nat.min_eq_left hkl] at hcc
    have HRZ := Lib.hid hRz; clear hRz
    have hccc := cut_cnt lt k
    obtain ⟨E, hE⟩ : ∃ E, E = endU (lt.take k) := ⟨_, rfl⟩
    obtain ⟨C, hC⟩ : ∃ C, C = cntU (lt.take k) := ⟨_, rfl⟩
    rw [← hE] at hHE hccc
    rw [← hC] at hcc hccc
    have HEE := Lib.hid hE; clear hE
    have HCE := Lib.hid hC; clear hC
    have HCC := Lib.hid hccc; clear hccc
    have hsts := segCells_set HM.out (lt.take E)
    rw [HLS.out] at hsts
    simp only [] at hsts
    have HST := Lib.hid hsts; clear hsts
    have HLG5 := Lib.hid ((setLast_length segs ⟨lf, lt.take E⟩).trans HM.out)
    have HLS5 := Lib.hid (lastS_setLast ⟨lf, lt.take E⟩ (xs := segs) (by have := HM.out; omega))
    go_wp2_with (first | ((with_reducible show wpList _ _ _ ({ dst := _, op := Op.store 46 _ _, type := _, pos := _, after := _, guard := _ } :: _) _ _); refine wpList_store_row _ v2.heap.size 46 0 [.slice (some ⟨g, 0, none⟩) (m + 1) k1, .int .i64 next, .int .i64 mark] [] [.slice none 0 0, .int .i64 0, .int .i64 0] [] _ rfl rfl agg_Log (blk_new v2 _ _) rfl rfl rfl (by simp [Value.oneCell']) ?_; intro v3 hsb hsg; have HO3 := Lib.hid ((HO.out.alloc (.cells #[.slice none 0 0, .int .i64 0, .int .i64 0] 46)).kept hsg (.inr (fun e => by have := (HO.out.lt _ e).2; omega))); have HX := Lib.hid (show Blk v3 v2.heap.size 46 [.slice (some ⟨g, 0, none⟩) (m + 1) k1, .int .i64 next, .int .i64 mark].toArray by simpa using hsb); have SB3 := Lib.hid ((SB.out.alloc (.cells #[.slice none 0 0, .int .i64 0, .int .i64 0] 46)).grown hsg (fun e => by have := SB.out.lt; omega)); have ZB3 := Lib.hid ((ZB.out.alloc (.cells #[.slice none 0 0, .int .i64 0, .int .i64 0] 46)).grown hsg (fun e => by have := ZB.out.lt; omega)); have BW3 := Lib.hid (Below.grown (BW.out.alloc BW.out.size _) hsg (Nat.le_trans BW.out.size (by simp)) (fun k hk => by injection hk with hk; have := BW.out.size; omega)); have HZ3 := Lib.hid (show v2.heap.size + 1 ≤ v3.heap.size from Nat.le_trans (by simp) hsg.size); have hx0 : World.cell? v3 ⟨v2.heap.size, 0, none⟩ = some (.slice (some ⟨g, 0, none⟩) (m + 1) k1) := blk_cell0 (L := [.slice (some ⟨g, 0, none⟩) (m + 1) k1, .int .i64 next, .int .i64 mark]) HX.out 0 rfl; clear hsb hsg) | fail)
    have hcb0 := World.ownsRow.cells (g := g) HO3.out rfl (m * 2) _ HCG.out.1
    have hcb1 := World.ownsRow.cells (g := g) HO3.out rfl (m * 2 + 1) _ HCG.out.2
    rw [add_plain, Nat.zero_add] at hcb0 hcb1
    refine wp_region_x 19 [0, 1, 2, 3, 4, 6, 7, 8, 9, 10, 5, 11, 12, 13, 14, 15, 16, 17, 18] (by kernel_rfl) (by kernel_rfl) ?_
    iterate 10 (refine wpX_quiet rfl (by kernel_rfl) rfl ?_; go_wp2; refine ⟨rfl, ?_⟩)
    refine wpX_actor rfl (by kernel_rfl) ?_
    go_wp2
    refine ⟨Ext.refl _, ?_⟩
    refine wpX_actor rfl (by kernel_rfl) ?_
    go_wp2
    rw [HKN.out]
    refine ⟨Ext.refl _, ?_⟩
    have hbs : ((bs lt).extract 0 k) = bs (lt.take k) := by rw [bs_extract, List.drop_zero, Nat.sub_zero]
    iterate 1 (refine wpX_quiet rfl (by kernel_rfl) rfl ?_; go_wp2; refine ⟨rfl, ?_⟩)
    refine wpX_actor rfl (by kernel_rfl) ?_
    go_wp2_with fail
    refine (iUnframe_any (lt.take k) _ (by rw [List.length_take]; omega)).mono ?_; rintro e v4 ⟨uv, rfl, _, hb⟩
    rw [show (unframeL (lt.take k)).2 = E from HEE.out.symm]
    have HB := Lib.hid hb
    have HO4 := Lib.hid (HO3.out.drew.keptBelow hb)
    have HX4 := Lib.hid (HX.out.drew.below hb)
    have ZB4 := Lib.hid (ZB3.out.drew.below hb)
    have BW4 := Lib.hid (show Below w.heap.size w v4 from BW3.out.drew.trans (hb.mono BW3.out.size))
    have HZ4 := Lib.hid (Nat.le_trans HZ3.out hb.size)
    clear hb hcb0 hcb1 hx0 HO3 HX ZB3 BW3 HZ3 SB3
    go_wp2
    refine ⟨Ext.of_below HB.out, ?_⟩
    iterate 5 (refine wpX_quiet rfl (by kernel_rfl) rfl ?_; go_wp2; refine ⟨rfl, ?_⟩)
    refine wpX_nil ?_; simp only [List.drop_succ_cons, List.drop_zero]
    have hcb1 := World.ownsRow.cells (g := g) HO4.out rfl (m * 2 + 1) _ HCG.out.2
    rw [add_plain, Nat.zero_add] at hcb1
    have hfz1 : v4.frozen? ⟨g, m * 2 + 1, none⟩ = false := HO4.out.frozenAt (m * 2 + 1)
    have hst := HO4.out.stored (m * 2 + 1) (.string (bs (lt.take E)))
    rw [HST.out] at hst
    have HO5 := Lib.hid hst.1
    have HG5 := Lib.hid hst.2
    have hgx : g ≠ v2.heap.size := by omega
    have HX5 := Lib.hid (HX4.out.grown HG5.out (fun e => hgx e.symm))
    have ZB5 := Lib.hid (ZB4.out.grown HG5.out (fun e => by have := HZ1.out; omega))
    have BW5 := Lib.hid (Below.grown BW4.out HG5.out BW4.out.size (fun k hk => by injection hk with hk; have := HZ1.out; omega))
    have HZ5 := Lib.hid (show v2.heap.size + 1 ≤ (World.heap (v4.setCell ⟨g, m * 2 + 1, none⟩ (.string (bs (lt.take E))))).size by rw [setCell_size]; exact HZ4.out)
    have hbs2 : ((bs lt).extract 0 E) = bs (lt.take E) := by rw [bs_extract, List.drop_zero, Nat.sub_zero]
    clear hst
    go_wp2
    generalize hW5 : v4.setCell ⟨g, m * 2 + 1, none⟩ (.string (bs (lt.take E))) = W5 at *
    clear hcb1 hfz1 HO4 HX4 ZB4 BW4 HZ4 HG5
    have hrow5 := seg_row HO5.out HLG5.out HLS5.out
    have hc50 : W5.cell? ⟨g, m * 2, none⟩ = some (.int .i64 lf) := hrow5 0 _ rfl
    clear hrow5
    have HR5 := Lib.hid (seg_row HO5.out.drew HLG5.out HLS5.out)
    have hx1 : W5.cell? ⟨v2.heap.size, 1, none⟩ = some (.int .i64 next) := blk_cell0 (L := [.slice (some ⟨g, 0, none⟩) (m + 1) k1, .int .i64 next, .int .i64 mark]) HX5.out 1 rfl
    refine wp_region_x 9 [0, 1, 2, 3, 4, 5, 6, 7, 8] (by kernel_rfl) (by kernel_rfl) ?_
    iterate 6 (refine wpX_quiet rfl (by kernel_rfl) rfl ?_; go_wp2; refine ⟨rfl, ?_⟩)
    refine wpX_quiet rfl (by kernel_rfl) rfl ?_
    refine wpList_load_row _ ⟨g, m * 2, none⟩ rfl [.int .i64 lf, .string (bs (lt.take E))] agg_Seg rfl HR5.out ?_
    clear hc50
    go_wp2
    refine ⟨rfl, ?_⟩
    refine wpX_actor rfl (by kernel_rfl) ?_
    go_wp2_with fail
    refine (records_any lf (lt.take E) _ (by rw [List.length_take]; omega)).mono ?_; rintro e v6 ⟨rfl, hb⟩
    rw [HCC.out]
    have HB := Lib.hid hb
    have HO6 := Lib.hid (HO5.out.drew.keptBelow hb)
    have HX6 := Lib.hid (HX5.out.drew.below hb)
    have ZB6 := Lib.hid (ZB5.out.drew.below hb)
    have BW6 := Lib.hid (show Below w.heap.size w v6 from BW5.out.drew.trans (hb.mono BW5.out.size))
    have HZ6 := Lib.hid (Nat.le_trans HZ5.out hb.size)
    clear hb hx1 HO5 HX5 ZB5 BW5 HZ5 HR5
    go_wp2
    refine ⟨Ext.of_below HB.out, ?_⟩
    iterate 1 (refine wpX_quiet rfl (by kernel_rfl) rfl ?_; go_wp2; refine ⟨rfl, ?_⟩)
    refine wpX_nil ?_; simp only [List.drop_succ_cons, List.drop_zero]
    have hq1 : v6.cell? ⟨v2.heap.size, 1, none⟩ = some (.int .i64 next) := blk_cell0 (L := [.slice (some ⟨g, 0, none⟩) (m + 1) k1, .int .i64 next, .int .i64 mark]) HX6.out 1 rfl
    have hq2 : v6.cell? ⟨v2.heap.size, 2, none⟩ = some (.int .i64 mark) := blk_cell0 (L := [.slice (some ⟨g, 0, none⟩) (m + 1) k1, .int .i64 next, .int .i64 mark]) HX6.out 2 rfl
    have hfz1 : v6.frozen? ⟨v2.heap.size, 1, none⟩ = false := HX6.out.frozen 1
    have hfz2 : v6.frozen? ⟨v2.heap.size, 2, none⟩ = false := HX6.out.frozen 2
    have HX8 := Lib.hid (blk_put0 (blk_put0 HX6.out 1 (.int .i64 (lf + (C : Int)))) 2 (.int .i64 (min mark (lf + (C : Int) - 1))))
    have ZB8 := Lib.hid (Blk.setOther (Blk.setOther ZB6.out (a := ⟨v2.heap.size, 1, none⟩) (by have := HZ1.out; have := HZ2.out; show v2.heap.size ≠ _; omega) (.int .i64 (lf + (C : Int)))) (a := ⟨v2.heap.size, 2, none⟩) (by have := HZ1.out; have := HZ2.out; show v2.heap.size ≠ _; omega) (.int .i64 (min mark (lf + (C : Int) - 1))))
    have BW8 := Lib.hid (Below.setCell (Below.setCell BW6.out (p := ⟨v2.heap.size, 1, none⟩) (by have := HZ1.out; have := HZ2.out; show _ ≤ v2.heap.size; omega) (.int .i64 (lf + (C : Int)))) (p := ⟨v2.heap.size, 2, none⟩) (by have := HZ1.out; have := HZ2.out; show _ ≤ v2.heap.size; omega) (.int .i64 (min mark (lf + (C : Int) - 1))))
    have HO8 := Lib.hid (ownsRow_keep (base' := v1.heap.size) HO6.out (w' := (v6.setCell ⟨v2.heap.size, 1, none⟩ (.int .i64 (lf + (C : Int)))).setCell ⟨v2.heap.size, 2, none⟩ (.int .i64 (min mark (lf + (C : Int) - 1)))) (fun k hk => ⟨(HO6.out.lt k hk).1, by
      have e : some g = some k := hk
      injection e with e
      exact (Below.heap_setCell _ _ _ _ (fun e2 => by have e3 : k = v2.heap.size := e2; omega)).trans (Below.heap_setCell _ _ _ _ (fun e2 => by have e3 : k = v2.heap.size := e2; omega))⟩))
    go_wp2_with (first | ((with_reducible show wpList _ _ _ ({ dst := _, op := Op.load 46 _, type := _, pos := _, after := _, guard := _ } :: _) _ _); refine wpList_load_row _ ⟨v2.heap.size, 0, none⟩ rfl [.slice (some ⟨g, 0, none⟩) (m + 1) k1, .int .i64 (lf + (C : Int)), .int .i64 (min mark (lf + (C : Int) - 1))] agg_Log rfl (blk_cells HX8.out) ?_) | ((with_reducible show wpList _ _ _ ({ dst := _, op := Op.store 46 _ _, type := _, pos := _, after := _, guard := _ } :: _) _ _); refine wpList_store_row _ (w.heap.size + 1) 46 0 [.slice (some ⟨g, 0, none⟩) (m + 1) k1, .int .i64 (lf + (C : Int)), .int .i64 (min mark (lf + (C : Int) - 1))] [] [.slice none 0 0, .int .i64 0, .int .i64 0] [] _ rfl rfl agg_Log ZB8.out rfl rfl rfl (by simp [Value.oneCell']) ?_; intro v9 hzb hzg) | fail)
    have hRz : R = (⟨setLast segs ⟨lf, lt.take E⟩, lf + (C : Int), min mark (lf + (C : Int) - 1)⟩, true) := by
      rw [HRZ.out]
      unfold cutL
      simp only [HLS.out, ← HEE.out, ← HCE.out]
      congr 2
      split <;> omega
    rw [hRz]
    have hO9 := ownsRow_keep (base' := w.heap.size) HO8.out (w' := v9) (fun k hk => ⟨by have h1 := (HO8.out.lt k hk).1; have h2 := HZ1.out; omega, hzg.block k (HO8.out.lt k hk).2 (fun e => by injection e with e; have h1 := (HO8.out.lt k hk).1; have h2 := HZ1.out; omega)⟩)
    rw [← HLG5.out] at hO9
    exact bodyPost_cell2 rfl ⟨w.heap.size + 1, 0, none⟩ rfl [.slice (some ⟨g, 0, none⟩) (setLast segs ⟨lf, lt.take E⟩).length k1, .int .i64 (lf + (C : Int)), .int .i64 (min mark (lf + (C : Int) - 1))] _ rfl agg_Log rfl (by rw [HLG5.out]; exact blk_cells hzb) rfl ⟨_, rfl, own_log hO9, Below.grown BW8.out hzg BW8.out.size (fun k hk => by injection hk with hk; omega)⟩

set_option maxRecDepth 100000 in
set_option maxHeartbeats 4000000 in
theorem sLogCut_any (x : LogD) (n : Int) (cs : List Value) (w : World) (hwt : x.c.wt ≤ 1048576) (hi : i64ok n) (h : Rep anyB w x.c cs) :
    Calls Try.prog 51 #[.agg cs.toArray, .int .i64 n] w fun e w' => ∃ cs', e = .returned (.tuple #[.agg cs'.toArray, .bool (fLogCut x n).2]) ∧ Mine w' w.heap.size (fLogCut x n).1.c cs' ∧ Below w.heap.size w w' := by
  have hw0 : x.c.wt = x.segs.length + (cat SegD.c x.segs).wt + 0 := rfl
  have HA := Lib.hid h
  have HW := Lib.hid hwt
  obtain ⟨A0, k0, rfl, _⟩ := LogD.open h
  have HSF := Lib.hid (@seg_first x)
  have HGD := Lib.hid (@logOk_iff x)
  obtain ⟨R, hR⟩ : ∃ R, R = fLogCut x n := ⟨_, rfl⟩
  rw [← hR]
  obtain ⟨segs, next, mark⟩ := x
  simp only [] at hw0 hR HA HW HSF HGD ⊢
  have HR := Lib.hid hR; clear hR
  have hn1 : segs.length ≤ 1048576 := by omega
  have hwl := fun j hj => seg_wt_le (xs := segs) j hj
  have HWL := Lib.hid hwl; clear hwl
  have hw1 : (cat SegD.c segs).wt ≤ 1048576 := by omega
  clear h hwt hw0
  go_enter Try.func51, Try.ntmps51
  go_wp2_with fail
  refine (sLogOk_any ⟨segs, next, mark⟩ _ _ HW.out (HA.out.below (by repeat' (first | with_reducible exact Below.refl _ _ | with_reducible exact BW.out | with_reducible refine Below.setCell ?_ ?_ _ | with_reducible refine Below.alloc ?_ ?_ _ | with_reducible refine Below.drew ?_ | (simp; done) | (simp; omega) | omega)))).mono ?_; rintro e v1 ⟨rfl, hb⟩
  have SB := Lib.hid (Blk.below (blk2_0 _ _ _ _) hb)
  have ZB := Lib.hid (Blk.below (blk2_1 _ _ _ _) hb)
  have BW := Lib.hid (show Below w.heap.size w v1 from Below.trans (by repeat' (first | with_reducible exact Below.refl _ _ | with_reducible exact BW.out | with_reducible refine Below.setCell ?_ ?_ _ | with_reducible refine Below.alloc ?_ ?_ _ | with_reducible refine Below.drew ?_ | (simp; done) | (simp; omega) | omega)) (hb.mono (by first | (simp; done) | (simp; omega) | omega)))
  have HZ1 := Lib.hid (show w.heap.size + 1 + 1 ≤ v1.heap.size from Nat.le_trans (by simp) hb.size); clear hb
  cases hx : logOkB ⟨segs, next, mark⟩
  case false =>
    have hRz : R = (⟨[], 0, 0⟩, false) := by rw [HR.out]; unfold fLogCut; rw [hx]; first | rfl | (rw [if_neg (by simp)])
    subst hRz
    clear HR HSF HGD
    go_wp2_with (first | ((with_reducible show wpList _ _ _ ({ dst := _, op := Op.store 46 _ _, type := _, pos := _, after := _, guard := _ } :: _) _ _); refine wpList_store_row _ (w.heap.size + 1) 46 0 [.slice none 0 0, .int .i64 0, .int .i64 0] [] [.slice none 0 0, .int .i64 0, .int .i64 0] [] _ rfl rfl agg_Log ZB.out rfl rfl rfl (by simp [Value.oneCell']) ?_; intro v9 hzb hzg) | fail)
    exact bodyPost_cell2 rfl ⟨w.heap.size + 1, 0, none⟩ rfl [.slice none 0 0, .int .i64 0, .int .i64 0] _ rfl agg_Log rfl (blk_cells hzb) rfl ⟨_, rfl, own_log (xs := []) (own_none _ _ _ _), Below.grown BW.out hzg BW.out.size (fun k hk => by injection hk with hk; omega)⟩
  case true =>
    have hgd := HGD.out.1 hx
    have HLG := Lib.hid hgd
    obtain ⟨hl1, _, _, _, _, hnx, hm0, hmn⟩ := hgd
    simp only [] at hl1 hnx hm0 hmn
    have HF := Lib.hid (HSF.out hx)
    have HXX := Lib.hid hx
    clear HSF HGD hx
    obtain ⟨m, hm⟩ : ∃ m, segs.length = m + 1 := ⟨segs.length - 1, by omega⟩
    have HM := Lib.hid hm; clear hm
    clear hl1
    go_wp2_with (first | ((with_reducible show wpList _ _ _ ({ dst := _, op := Op.load 46 _, type := _, pos := _, after := _, guard := _ } :: _) _ _); refine wpList_load_row _ ⟨w.heap.size, 0, none⟩ rfl [.slice A0 segs.length k0, .int .i64 next, .int .i64 mark] agg_Log rfl (blk_cells SB.out) ?_) | fail)
    refine (l6Copy_any ⟨segs, next, mark⟩ _ _ HW.out (HA.out.below BW.out)).mono ?_; rintro e v2 ⟨cs', rfl, hM, hb⟩
    obtain ⟨A1, k1, rfl, hrow⟩ := log_own hM
    simp only [] at hrow ⊢
    rw [HM.out] at hrow ⊢
    obtain ⟨g, c', he, hg1, hg2⟩ := own_form hrow (by omega)
    injection he with he _ hec
    subst he hec
    have hcap : m + 1 ≤ k1 := own_cap hrow
    clear hM
    have HO := Lib.hid hrow; clear hrow
    have X := Lib.hid (SB.out.below hb); clear SB
    have SB := Lib.hid X.out; clear X
    have X := Lib.hid (ZB.out.below hb); clear ZB
    have ZB := Lib.hid X.out; clear X
    have HZ2 := Lib.hid hb.size
    have X := Lib.hid (show Below w.heap.size w v2 from BW.out.trans (hb.mono BW.out.size)); clear BW hb
    have BW := Lib.hid X.out; clear X
    obtain ⟨lf, lt, hls⟩ : ∃ lf lt, lastS segs = ⟨lf, lt⟩ := ⟨_, _, rfl⟩
    have hlb := HF.out _ (lastS_mem (xs := segs) (by have := HM.out; omega))
    rw [hls] at hlb
    simp only [] at hlb
    obtain ⟨hlf1, hlf2⟩ := hlb
    have hll := last_wt segs
    rw [hls] at hll
    simp only [] at hll
    have hlen : lt.length ≤ 1048576 := by omega
    have HLS := Lib.hid hls; clear hls hll
    have hmb : m ≤ 1048576 := by have := HM.out; omega
    by_cases hn0 : n < 0
    · skip
      have hcg := segCells_get HM.out
      rw [HLS.out] at hcg
      simp only [] at hcg
      have HCG := Lib.hid hcg; clear hcg
      by_cases hkl : 0 < lt.length
      · skip
        have hkl' : (0 : Int) < (lt.length : Int) := by omega
        have hRz : R = (cutL ⟨segs, next, mark⟩ 0, true) := by
          rw [HR.out]; unfold fLogCut; rw [HXX.out, if_pos rfl]
          congr 2
          try omega
        have hHE := endU_le []
        have hcc := cntU_le []
        simp only [List.length_nil] at hHE hcc
        obtain ⟨E, hE⟩ : ∃ E, E = endU [] := ⟨_, rfl⟩
        obtain ⟨C, hC⟩ : ∃ C, C = cntU [] := ⟨_, rfl⟩
        rw [← hE] at hHE
        rw [← hC] at hcc
        have hHE' : E ≤ lt.length := by omega
        have hcc' : C ≤ 1048576 := by omega
        clear hHE hcc
        have HEE := Lib.hid hE; clear hE
        have HCE := Lib.hid hC; clear hC
        have hsts := segCells_set HM.out (lt.take E)
        rw [HLS.out] at hsts
        simp only [] at hsts
        have HST := Lib.hid hsts; clear hsts
        have HLG5 := Lib.hid ((setLast_length segs ⟨lf, lt.take E⟩).trans HM.out)
        have HLS5 := Lib.hid (lastS_setLast ⟨lf, lt.take E⟩ (xs := segs) (by have := HM.out; omega))
        have HRZ := Lib.hid hRz; clear hRz
        go_wp2_with (first | ((with_reducible show wpList _ _ _ ({ dst := _, op := Op.store 46 _ _, type := _, pos := _, after := _, guard := _ } :: _) _ _); refine wpList_store_row _ v2.heap.size 46 0 [.slice (some ⟨g, 0, none⟩) (m + 1) k1, .int .i64 next, .int .i64 mark] [] [.slice none 0 0, .int .i64 0, .int .i64 0] [] _ rfl rfl agg_Log (blk_new v2 _ _) rfl rfl rfl (by simp [Value.oneCell']) ?_; intro v3 hsb hsg; have HO3 := Lib.hid ((HO.out.alloc (.cells #[.slice none 0 0, .int .i64 0, .int .i64 0] 46)).kept hsg (.inr (fun e => by have := (HO.out.lt _ e).2; omega))); have HX := Lib.hid (show Blk v3 v2.heap.size 46 [.slice (some ⟨g, 0, none⟩) (m + 1) k1, .int .i64 next, .int .i64 mark].toArray by simpa using hsb); have SB3 := Lib.hid ((SB.out.alloc (.cells #[.slice none 0 0, .int .i64 0, .int .i64 0] 46)).grown hsg (fun e => by have := SB.out.lt; omega)); have ZB3 := Lib.hid ((ZB.out.alloc (.cells #[.slice none 0 0, .int .i64 0, .int .i64 0] 46)).grown hsg (fun e => by have := ZB.out.lt; omega)); have BW3 := Lib.hid (Below.grown (BW.out.alloc BW.out.size _) hsg (Nat.le_trans BW.out.size (by simp)) (fun k hk => by injection hk with hk; have := BW.out.size; omega)); have HZ3 := Lib.hid (show v2.heap.size + 1 ≤ v3.heap.size from Nat.le_trans (by simp) hsg.size); have hx0 : World.cell? v3 ⟨v2.heap.size, 0, none⟩ = some (.slice (some ⟨g, 0, none⟩) (m + 1) k1) := blk_cell0 (L := [.slice (some ⟨g, 0, none⟩) (m + 1) k1, .int .i64 next, .int .i64 mark]) HX.out 0 rfl; have hx1 : World.cell? v3 ⟨v2.heap.size, 1, none⟩ = some (.int .i64 next) := blk_cell0 (L := [.slice (some ⟨g, 0, none⟩) (m + 1) k1, .int .i64 next, .int .i64 mark]) HX.out 1 rfl; have hx2 : World.cell? v3 ⟨v2.heap.size, 2, none⟩ = some (.int .i64 mark) := blk_cell0 (L := [.slice (some ⟨g, 0, none⟩) (m + 1) k1, .int .i64 next, .int .i64 mark]) HX.out 2 rfl; have hcb1 := World.ownsRow.cells (g := g) HO3.out rfl (m * 2 + 1) _ HCG.out.2; rw [add_plain, Nat.zero_add] at hcb1; clear hsb hsg) | fail)
        refine (sUnframe_any [] _ (by simp; try omega)).mono ?_; rintro e v4 ⟨uv, rfl, hu, hb⟩
        obtain ⟨Au, cu, rfl, _⟩ := SlR.of_own hu
        rw [show (unframeL []).2 = E from HEE.out.symm, show (unframeL []).1.length = C from HCE.out.symm]
        have HO4 := Lib.hid (HO3.out.keptBelow hb)
        have HX4 := Lib.hid (HX.out.below hb)
        have ZB4 := Lib.hid (ZB3.out.below hb)
        have BW4 := Lib.hid (show Below w.heap.size w v4 from BW3.out.trans (hb.mono BW3.out.size))
        have HZ4 := Lib.hid (Nat.le_trans HZ3.out hb.size)
        clear hb hu hcb1 hx0 hx1 hx2 HO3 HX ZB3 BW3 HZ3 SB3
        have hx0 : World.cell? v4 ⟨v2.heap.size, 0, none⟩ = some (.slice (some ⟨g, 0, none⟩) (m + 1) k1) := blk_cell0 (L := [.slice (some ⟨g, 0, none⟩) (m + 1) k1, .int .i64 next, .int .i64 mark]) HX4.out 0 rfl
        go_wp2
        refine wp_region_x 8 [0, 1, 2, 3, 4, 5, 6, 7] (by kernel_rfl) (by kernel_rfl) ?_
        iterate 8 (refine wpX_quiet rfl (by kernel_rfl) rfl ?_; go_wp2; refine ⟨rfl, ?_⟩)
        refine wpX_nil ?_; simp only [List.drop_succ_cons, List.drop_zero]
        have hcb1 := World.ownsRow.cells (g := g) HO4.out.drew rfl (m * 2 + 1) _ HCG.out.2
        rw [add_plain, Nat.zero_add] at hcb1
        have hfz1 : v4.drew.frozen? ⟨g, m * 2 + 1, none⟩ = false := HO4.out.drew.frozenAt (m * 2 + 1)
        have hst := HO4.out.drew.stored (m * 2 + 1) (.string (bs (lt.take E)))
        rw [HST.out] at hst
        have HO5 := Lib.hid hst.1
        have HG5 := Lib.hid hst.2
        have hgx : g ≠ v2.heap.size := by omega
        have HX5 := Lib.hid (HX4.out.drew.grown HG5.out (fun e => hgx e.symm))
        have ZB5 := Lib.hid (ZB4.out.drew.grown HG5.out (fun e => by have := HZ1.out; omega))
        have BW5 := Lib.hid (Below.grown BW4.out.drew HG5.out BW4.out.size (fun k hk => by injection hk with hk; have := HZ1.out; omega))
        have HZ5 := Lib.hid (show v2.heap.size + 1 ≤ (World.heap (v4.drew.setCell ⟨g, m * 2 + 1, none⟩ (.string (bs (lt.take E))))).size by rw [setCell_size]; exact HZ4.out)
        have hbs2 : ((bs lt).extract 0 E) = bs (lt.take E) := by rw [bs_extract, List.drop_zero, Nat.sub_zero]
        have hgx2 : ¬ v2.heap.size = g := fun e => hgx e.symm
        have hcb0 := World.ownsRow.cells (g := g) HO4.out rfl (m * 2) _ HCG.out.1
        rw [add_plain, Nat.zero_add] at hcb0
        clear hst HO4 ZB4 BW4 HZ4 HG5
        have hq1 : v4.cell? ⟨v2.heap.size, 1, none⟩ = some (.int .i64 next) := blk_cell0 (L := [.slice (some ⟨g, 0, none⟩) (m + 1) k1, .int .i64 next, .int .i64 mark]) HX4.out 1 rfl
        have hq2 : v4.cell? ⟨v2.heap.size, 2, none⟩ = some (.int .i64 mark) := blk_cell0 (L := [.slice (some ⟨g, 0, none⟩) (m + 1) k1, .int .i64 next, .int .i64 mark]) HX4.out 2 rfl
        have hfq1 : v4.frozen? ⟨v2.heap.size, 1, none⟩ = false := HX4.out.frozen 1
        have hfq2 : v4.frozen? ⟨v2.heap.size, 2, none⟩ = false := HX4.out.frozen 2
        clear HX4
        by_cases hmk : mark < lf + (C : Int)
        · have hmk2 : ¬ lf + (C : Int) ≤ mark := by omega
          have HX8 := Lib.hid (blk_put0 HX5.out 1 (.int .i64 (lf + (C : Int))))
          have ZB8 := Lib.hid (Blk.setOther ZB5.out (a := ⟨v2.heap.size, 1, none⟩) (by have := HZ1.out; have := HZ2.out; show v2.heap.size ≠ _; omega) (.int .i64 (lf + (C : Int))))
          have BW8 := Lib.hid (Below.setCell BW5.out (p := ⟨v2.heap.size, 1, none⟩) (by have := HZ1.out; have := HZ2.out; show _ ≤ v2.heap.size; omega) (.int .i64 (lf + (C : Int))))
          have HO8 := Lib.hid (ownsRow_keep (base' := v1.heap.size) HO5.out (w' := ((v4.drew.setCell ⟨g, m * 2 + 1, none⟩ (.string (bs (lt.take E)))).setCell ⟨v2.heap.size, 1, none⟩ (.int .i64 (lf + (C : Int))))) (fun k hk => ⟨(HO5.out.lt k hk).1, by
            have e : some g = some k := hk
            injection e with e
            exact (Below.heap_setCell _ _ _ _ (fun e2 => by have e3 : k = v2.heap.size := e2; omega))⟩))
          go_wp2_with (first | ((with_reducible show wpList _ _ _ ({ dst := _, op := Op.load 46 _, type := _, pos := _, after := _, guard := _ } :: _) _ _); refine wpList_load_row _ ⟨v2.heap.size, 0, none⟩ rfl [.slice (some ⟨g, 0, none⟩) (m + 1) k1, .int .i64 (lf + (C : Int)), .int .i64 mark] agg_Log rfl (blk_cells HX8.out) ?_) | ((with_reducible show wpList _ _ _ ({ dst := _, op := Op.store 46 _ _, type := _, pos := _, after := _, guard := _ } :: _) _ _); refine wpList_store_row _ (w.heap.size + 1) 46 0 [.slice (some ⟨g, 0, none⟩) (m + 1) k1, .int .i64 (lf + (C : Int)), .int .i64 mark] [] [.slice none 0 0, .int .i64 0, .int .i64 0] [] _ rfl rfl agg_Log ZB8.out rfl rfl rfl (by simp [Value.oneCell']) ?_; intro v9 hzb hzg) | fail)
          have hRz : R = (⟨setLast segs ⟨lf, lt.take E⟩, lf + (C : Int), mark⟩, true) := by
            rw [HRZ.out]
            unfold cutL
            simp only [HLS.out, List.take_zero, ← HEE.out, ← HCE.out]
            rw [if_pos hmk]
          try rw [hRz]
          have hO9 := ownsRow_keep (base' := w.heap.size) HO8.out (w' := v9) (fun k hk => ⟨by have h1 := (HO8.out.lt k hk).1; have h2 := HZ1.out; omega, hzg.block k (HO8.out.lt k hk).2 (fun e => by injection e with e; have h1 := (HO8.out.lt k hk).1; have h2 := HZ1.out; omega)⟩)
          rw [← HLG5.out] at hO9
          exact bodyPost_cell2 rfl ⟨w.heap.size + 1, 0, none⟩ rfl [.slice (some ⟨g, 0, none⟩) (setLast segs ⟨lf, lt.take E⟩).length k1, .int .i64 (lf + (C : Int)), .int .i64 mark] _ rfl agg_Log rfl (by rw [HLG5.out]; exact blk_cells hzb) rfl ⟨_, rfl, own_log hO9, Below.grown BW8.out hzg BW8.out.size (fun k hk => by injection hk with hk; omega)⟩
        · have hmk2 : lf + (C : Int) ≤ mark := by omega
          have HX8 := Lib.hid (blk_put0 (blk_put0 HX5.out 1 (.int .i64 (lf + (C : Int)))) 2 (.int .i64 (lf + (C : Int) - 1)))
          have ZB8 := Lib.hid (Blk.setOther (Blk.setOther ZB5.out (a := ⟨v2.heap.size, 1, none⟩) (by have := HZ1.out; have := HZ2.out; show v2.heap.size ≠ _; omega) (.int .i64 (lf + (C : Int)))) (a := ⟨v2.heap.size, 2, none⟩) (by have := HZ1.out; have := HZ2.out; show v2.heap.size ≠ _; omega) (.int .i64 (lf + (C : Int) - 1)))
          have BW8 := Lib.hid (Below.setCell (Below.setCell BW5.out (p := ⟨v2.heap.size, 1, none⟩) (by have := HZ1.out; have := HZ2.out; show _ ≤ v2.heap.size; omega) (.int .i64 (lf + (C : Int)))) (p := ⟨v2.heap.size, 2, none⟩) (by have := HZ1.out; have := HZ2.out; show _ ≤ v2.heap.size; omega) (.int .i64 (lf + (C : Int) - 1)))
          have HO8 := Lib.hid (ownsRow_keep (base' := v1.heap.size) HO5.out (w' := (((v4.drew.setCell ⟨g, m * 2 + 1, none⟩ (.string (bs (lt.take E)))).setCell ⟨v2.heap.size, 1, none⟩ (.int .i64 (lf + (C : Int)))).setCell ⟨v2.heap.size, 2, none⟩ (.int .i64 (lf + (C : Int) - 1)))) (fun k hk => ⟨(HO5.out.lt k hk).1, by
            have e : some g = some k := hk
            injection e with e
            exact (Below.heap_setCell _ _ _ _ (fun e2 => by have e3 : k = v2.heap.size := e2; omega)).trans (Below.heap_setCell _ _ _ _ (fun e2 => by have e3 : k = v2.heap.size := e2; omega))⟩))
          go_wp2_with (first | ((with_reducible show wpList _ _ _ ({ dst := _, op := Op.load 46 _, type := _, pos := _, after := _, guard := _ } :: _) _ _); refine wpList_load_row _ ⟨v2.heap.size, 0, none⟩ rfl [.slice (some ⟨g, 0, none⟩) (m + 1) k1, .int .i64 (lf + (C : Int)), .int .i64 (lf + (C : Int) - 1)] agg_Log rfl (blk_cells HX8.out) ?_) | ((with_reducible show wpList _ _ _ ({ dst := _, op := Op.store 46 _ _, type := _, pos := _, after := _, guard := _ } :: _) _ _); refine wpList_store_row _ (w.heap.size + 1) 46 0 [.slice (some ⟨g, 0, none⟩) (m + 1) k1, .int .i64 (lf + (C : Int)), .int .i64 (lf + (C : Int) - 1)] [] [.slice none 0 0, .int .i64 0, .int .i64 0] [] _ rfl rfl agg_Log ZB8.out rfl rfl rfl (by simp [Value.oneCell']) ?_; intro v9 hzb hzg) | fail)
          have hRz : R = (⟨setLast segs ⟨lf, lt.take E⟩, lf + (C : Int), lf + (C : Int) - 1⟩, true) := by
            rw [HRZ.out]
            unfold cutL
            simp only [HLS.out, List.take_zero, ← HEE.out, ← HCE.out]
            rw [if_neg (by omega)]
          try rw [hRz]
          have hO9 := ownsRow_keep (base' := w.heap.size) HO8.out (w' := v9) (fun k hk => ⟨by have h1 := (HO8.out.lt k hk).1; have h2 := HZ1.out; omega, hzg.block k (HO8.out.lt k hk).2 (fun e => by injection e with e; have h1 := (HO8.out.lt k hk).1; have h2 := HZ1.out; omega)⟩)
          rw [← HLG5.out] at hO9
          exact bodyPost_cell2 rfl ⟨w.heap.size + 1, 0, none⟩ rfl [.slice (some ⟨g, 0, none⟩) (setLast segs ⟨lf, lt.take E⟩).length k1, .int .i64 (lf + (C : Int)), .int .i64 (lf + (C : Int) - 1)] _ rfl agg_Log rfl (by rw [HLG5.out]; exact blk_cells hzb) rfl ⟨_, rfl, own_log hO9, Below.grown BW8.out hzg BW8.out.size (fun k hk => by injection hk with hk; omega)⟩
      · skip
        have hkl' : ¬ (0 : Int) < (lt.length : Int) := by omega
        have hRz : R = (⟨segs, next, mark⟩, true) := by
          rw [HR.out]; unfold fLogCut; rw [HXX.out, if_pos rfl, cut_all HLG.out (by rw [show (lastS (LogD.segs ⟨segs, next, mark⟩)) = lastS segs from rfl, HLS.out]; simp only []; omega)]
        have hmk2 : ¬ next ≤ mark := by omega
        go_wp2_with (first | ((with_reducible show wpList _ _ _ ({ dst := _, op := Op.store 46 _ _, type := _, pos := _, after := _, guard := _ } :: _) _ _); refine wpList_store_row _ v2.heap.size 46 0 [.slice (some ⟨g, 0, none⟩) (m + 1) k1, .int .i64 next, .int .i64 mark] [] [.slice none 0 0, .int .i64 0, .int .i64 0] [] _ rfl rfl agg_Log (blk_new v2 _ _) rfl rfl rfl (by simp [Value.oneCell']) ?_; intro v3 hsb hsg; have HO3 := Lib.hid ((HO.out.alloc (.cells #[.slice none 0 0, .int .i64 0, .int .i64 0] 46)).kept hsg (.inr (fun e => by have := (HO.out.lt _ e).2; omega))); have HX := Lib.hid (show Blk v3 v2.heap.size 46 [.slice (some ⟨g, 0, none⟩) (m + 1) k1, .int .i64 next, .int .i64 mark].toArray by simpa using hsb); have SB3 := Lib.hid ((SB.out.alloc (.cells #[.slice none 0 0, .int .i64 0, .int .i64 0] 46)).grown hsg (fun e => by have := SB.out.lt; omega)); have ZB3 := Lib.hid ((ZB.out.alloc (.cells #[.slice none 0 0, .int .i64 0, .int .i64 0] 46)).grown hsg (fun e => by have := ZB.out.lt; omega)); have BW3 := Lib.hid (Below.grown (BW.out.alloc BW.out.size _) hsg (Nat.le_trans BW.out.size (by simp)) (fun k hk => by injection hk with hk; have := BW.out.size; omega)); have HZ3 := Lib.hid (show v2.heap.size + 1 ≤ v3.heap.size from Nat.le_trans (by simp) hsg.size); have hx0 : World.cell? v3 ⟨v2.heap.size, 0, none⟩ = some (.slice (some ⟨g, 0, none⟩) (m + 1) k1) := blk_cell0 (L := [.slice (some ⟨g, 0, none⟩) (m + 1) k1, .int .i64 next, .int .i64 mark]) HX.out 0 rfl; have hx1 : World.cell? v3 ⟨v2.heap.size, 1, none⟩ = some (.int .i64 next) := blk_cell0 (L := [.slice (some ⟨g, 0, none⟩) (m + 1) k1, .int .i64 next, .int .i64 mark]) HX.out 1 rfl; have hx2 : World.cell? v3 ⟨v2.heap.size, 2, none⟩ = some (.int .i64 mark) := blk_cell0 (L := [.slice (some ⟨g, 0, none⟩) (m + 1) k1, .int .i64 next, .int .i64 mark]) HX.out 2 rfl; have hcb1 := World.ownsRow.cells (g := g) HO3.out rfl (m * 2 + 1) _ HCG.out.2; rw [add_plain, Nat.zero_add] at hcb1; clear hsb hsg) | ((with_reducible show wpList _ _ _ ({ dst := _, op := Op.load 46 _, type := _, pos := _, after := _, guard := _ } :: _) _ _); refine wpList_load_row _ ⟨v2.heap.size, 0, none⟩ rfl [.slice (some ⟨g, 0, none⟩) (m + 1) k1, .int .i64 next, .int .i64 mark] agg_Log rfl (blk_cells HX.out) ?_) | ((with_reducible show wpList _ _ _ ({ dst := _, op := Op.store 46 _ _, type := _, pos := _, after := _, guard := _ } :: _) _ _); refine wpList_store_row _ (w.heap.size + 1) 46 0 [.slice (some ⟨g, 0, none⟩) (m + 1) k1, .int .i64 next, .int .i64 mark] [] [.slice none 0 0, .int .i64 0, .int .i64 0] [] _ rfl rfl agg_Log ZB3.out rfl rfl rfl (by simp [Value.oneCell']) ?_; intro v9 hzb hzg) | fail)
        try rw [hRz]
        have hO9 := ownsRow_keep (base' := w.heap.size) HO3.out (w' := v9) (fun k hk => ⟨by have h1 := (HO3.out.lt k hk).1; have h2 := HZ1.out; omega, hzg.block k (HO3.out.lt k hk).2 (fun e => by injection e with e; have h1 := (HO3.out.lt k hk).1; have h2 := HZ1.out; omega)⟩)
        rw [← HM.out] at hO9
        exact bodyPost_cell2 rfl ⟨w.heap.size + 1, 0, none⟩ rfl [.slice (some ⟨g, 0, none⟩) segs.length k1, .int .i64 next, .int .i64 mark] _ rfl agg_Log rfl (by rw [HM.out]; exact blk_cells hzb) rfl ⟨_, rfl, own_log hO9, Below.grown BW3.out hzg BW3.out.size (fun k hk => by injection hk with hk; omega)⟩
    · obtain ⟨k, rfl⟩ := Int.eq_ofNat_of_zero_le (show 0 ≤ n by omega)
      have hcg := segCells_get HM.out
      rw [HLS.out] at hcg
      simp only [] at hcg
      have HCG := Lib.hid hcg; clear hcg
      by_cases hkl : k < lt.length
      · skip
        have hkl' : (k : Int) < (lt.length : Int) := by omega
        have hRz : R = (cutL ⟨segs, next, mark⟩ k, true) := by
          rw [HR.out]; unfold fLogCut; rw [HXX.out, if_pos rfl]
          congr 2
          try omega
        have hHE := endU_le (lt.take k)
        have hcc := cntU_le (lt.take k)
        rw [List.length_take, Nat.min_eq_left (by omega)] at hHE hcc
        obtain ⟨E, hE⟩ : ∃ E, E = endU (lt.take k) := ⟨_, rfl⟩
        obtain ⟨C, hC⟩ : ∃ C, C = cntU (lt.take k) := ⟨_, rfl⟩
        rw [← hE] at hHE
        rw [← hC] at hcc
        have hHE' : E ≤ lt.length := by omega
        have hcc' : C ≤ 1048576 := by omega
        clear hHE hcc
        have HEE := Lib.hid hE; clear hE
        have HCE := Lib.hid hC; clear hC
        have hsts := segCells_set HM.out (lt.take E)
        rw [HLS.out] at hsts
        simp only [] at hsts
        have HST := Lib.hid hsts; clear hsts
        have HLG5 := Lib.hid ((setLast_length segs ⟨lf, lt.take E⟩).trans HM.out)
        have HLS5 := Lib.hid (lastS_setLast ⟨lf, lt.take E⟩ (xs := segs) (by have := HM.out; omega))
        have HRZ := Lib.hid hRz; clear hRz
        go_wp2_with (first | ((with_reducible show wpList _ _ _ ({ dst := _, op := Op.store 46 _ _, type := _, pos := _, after := _, guard := _ } :: _) _ _); refine wpList_store_row _ v2.heap.size 46 0 [.slice (some ⟨g, 0, none⟩) (m + 1) k1, .int .i64 next, .int .i64 mark] [] [.slice none 0 0, .int .i64 0, .int .i64 0] [] _ rfl rfl agg_Log (blk_new v2 _ _) rfl rfl rfl (by simp [Value.oneCell']) ?_; intro v3 hsb hsg; have HO3 := Lib.hid ((HO.out.alloc (.cells #[.slice none 0 0, .int .i64 0, .int .i64 0] 46)).kept hsg (.inr (fun e => by have := (HO.out.lt _ e).2; omega))); have HX := Lib.hid (show Blk v3 v2.heap.size 46 [.slice (some ⟨g, 0, none⟩) (m + 1) k1, .int .i64 next, .int .i64 mark].toArray by simpa using hsb); have SB3 := Lib.hid ((SB.out.alloc (.cells #[.slice none 0 0, .int .i64 0, .int .i64 0] 46)).grown hsg (fun e => by have := SB.out.lt; omega)); have ZB3 := Lib.hid ((ZB.out.alloc (.cells #[.slice none 0 0, .int .i64 0, .int .i64 0] 46)).grown hsg (fun e => by have := ZB.out.lt; omega)); have BW3 := Lib.hid (Below.grown (BW.out.alloc BW.out.size _) hsg (Nat.le_trans BW.out.size (by simp)) (fun k hk => by injection hk with hk; have := BW.out.size; omega)); have HZ3 := Lib.hid (show v2.heap.size + 1 ≤ v3.heap.size from Nat.le_trans (by simp) hsg.size); have hx0 : World.cell? v3 ⟨v2.heap.size, 0, none⟩ = some (.slice (some ⟨g, 0, none⟩) (m + 1) k1) := blk_cell0 (L := [.slice (some ⟨g, 0, none⟩) (m + 1) k1, .int .i64 next, .int .i64 mark]) HX.out 0 rfl; have hx1 : World.cell? v3 ⟨v2.heap.size, 1, none⟩ = some (.int .i64 next) := blk_cell0 (L := [.slice (some ⟨g, 0, none⟩) (m + 1) k1, .int .i64 next, .int .i64 mark]) HX.out 1 rfl; have hx2 : World.cell? v3 ⟨v2.heap.size, 2, none⟩ = some (.int .i64 mark) := blk_cell0 (L := [.slice (some ⟨g, 0, none⟩) (m + 1) k1, .int .i64 next, .int .i64 mark]) HX.out 2 rfl; have hcb1 := World.ownsRow.cells (g := g) HO3.out rfl (m * 2 + 1) _ HCG.out.2; rw [add_plain, Nat.zero_add] at hcb1; clear hsb hsg) | fail)
        refine (sUnframe_any (lt.take k) _ (by simp; try omega)).mono ?_; rintro e v4 ⟨uv, rfl, hu, hb⟩
        obtain ⟨Au, cu, rfl, _⟩ := SlR.of_own hu
        rw [show (unframeL (lt.take k)).2 = E from HEE.out.symm, show (unframeL (lt.take k)).1.length = C from HCE.out.symm]
        have HO4 := Lib.hid (HO3.out.keptBelow hb)
        have HX4 := Lib.hid (HX.out.below hb)
        have ZB4 := Lib.hid (ZB3.out.below hb)
        have BW4 := Lib.hid (show Below w.heap.size w v4 from BW3.out.trans (hb.mono BW3.out.size))
        have HZ4 := Lib.hid (Nat.le_trans HZ3.out hb.size)
        clear hb hu hcb1 hx0 hx1 hx2 HO3 HX ZB3 BW3 HZ3 SB3
        have hx0 : World.cell? v4 ⟨v2.heap.size, 0, none⟩ = some (.slice (some ⟨g, 0, none⟩) (m + 1) k1) := blk_cell0 (L := [.slice (some ⟨g, 0, none⟩) (m + 1) k1, .int .i64 next, .int .i64 mark]) HX4.out 0 rfl
        go_wp2
        refine wp_region_x 8 [0, 1, 2, 3, 4, 5, 6, 7] (by kernel_rfl) (by kernel_rfl) ?_
        iterate 8 (refine wpX_quiet rfl (by kernel_rfl) rfl ?_; go_wp2; refine ⟨rfl, ?_⟩)
        refine wpX_nil ?_; simp only [List.drop_succ_cons, List.drop_zero]
        have hcb1 := World.ownsRow.cells (g := g) HO4.out.drew rfl (m * 2 + 1) _ HCG.out.2
        rw [add_plain, Nat.zero_add] at hcb1
        have hfz1 : v4.drew.frozen? ⟨g, m * 2 + 1, none⟩ = false := HO4.out.drew.frozenAt (m * 2 + 1)
        have hst := HO4.out.drew.stored (m * 2 + 1) (.string (bs (lt.take E)))
        rw [HST.out] at hst
        have HO5 := Lib.hid hst.1
        have HG5 := Lib.hid hst.2
        have hgx : g ≠ v2.heap.size := by omega
        have HX5 := Lib.hid (HX4.out.drew.grown HG5.out (fun e => hgx e.symm))
        have ZB5 := Lib.hid (ZB4.out.drew.grown HG5.out (fun e => by have := HZ1.out; omega))
        have BW5 := Lib.hid (Below.grown BW4.out.drew HG5.out BW4.out.size (fun k hk => by injection hk with hk; have := HZ1.out; omega))
        have HZ5 := Lib.hid (show v2.heap.size + 1 ≤ (World.heap (v4.drew.setCell ⟨g, m * 2 + 1, none⟩ (.string (bs (lt.take E))))).size by rw [setCell_size]; exact HZ4.out)
        have hbs2 : ((bs lt).extract 0 E) = bs (lt.take E) := by rw [bs_extract, List.drop_zero, Nat.sub_zero]
        have hgx2 : ¬ v2.heap.size = g := fun e => hgx e.symm
        have hcb0 := World.ownsRow.cells (g := g) HO4.out rfl (m * 2) _ HCG.out.1
        rw [add_plain, Nat.zero_add] at hcb0
        clear hst HO4 ZB4 BW4 HZ4 HG5
        have hq1 : v4.cell? ⟨v2.heap.size, 1, none⟩ = some (.int .i64 next) := blk_cell0 (L := [.slice (some ⟨g, 0, none⟩) (m + 1) k1, .int .i64 next, .int .i64 mark]) HX4.out 1 rfl
        have hq2 : v4.cell? ⟨v2.heap.size, 2, none⟩ = some (.int .i64 mark) := blk_cell0 (L := [.slice (some ⟨g, 0, none⟩) (m + 1) k1, .int .i64 next, .int .i64 mark]) HX4.out 2 rfl
        have hfq1 : v4.frozen? ⟨v2.heap.size, 1, none⟩ = false := HX4.out.frozen 1
        have hfq2 : v4.frozen? ⟨v2.heap.size, 2, none⟩ = false := HX4.out.frozen 2
        clear HX4
        by_cases hmk : mark < lf + (C : Int)
        · have hmk2 : ¬ lf + (C : Int) ≤ mark := by omega
          have HX8 := Lib.hid (blk_put0 HX5.out 1 (.int .i64 (lf + (C : Int))))
          have ZB8 := Lib.hid (Blk.setOther ZB5.out (a := ⟨v2.heap.size, 1, none⟩) (by have := HZ1.out; have := HZ2.out; show v2.heap.size ≠ _; omega) (.int .i64 (lf + (C : Int))))
          have BW8 := Lib.hid (Below.setCell BW5.out (p := ⟨v2.heap.size, 1, none⟩) (by have := HZ1.out; have := HZ2.out; show _ ≤ v2.heap.size; omega) (.int .i64 (lf + (C : Int))))
          have HO8 := Lib.hid (ownsRow_keep (base' := v1.heap.size) HO5.out (w' := ((v4.drew.setCell ⟨g, m * 2 + 1, none⟩ (.string (bs (lt.take E)))).setCell ⟨v2.heap.size, 1, none⟩ (.int .i64 (lf + (C : Int))))) (fun k hk => ⟨(HO5.out.lt k hk).1, by
            have e : some g = some k := hk
            injection e with e
            exact (Below.heap_setCell _ _ _ _ (fun e2 => by have e3 : k = v2.heap.size := e2; omega))⟩))
          go_wp2_with (first | ((with_reducible show wpList _ _ _ ({ dst := _, op := Op.load 46 _, type := _, pos := _, after := _, guard := _ } :: _) _ _); refine wpList_load_row _ ⟨v2.heap.size, 0, none⟩ rfl [.slice (some ⟨g, 0, none⟩) (m + 1) k1, .int .i64 (lf + (C : Int)), .int .i64 mark] agg_Log rfl (blk_cells HX8.out) ?_) | ((with_reducible show wpList _ _ _ ({ dst := _, op := Op.store 46 _ _, type := _, pos := _, after := _, guard := _ } :: _) _ _); refine wpList_store_row _ (w.heap.size + 1) 46 0 [.slice (some ⟨g, 0, none⟩) (m + 1) k1, .int .i64 (lf + (C : Int)), .int .i64 mark] [] [.slice none 0 0, .int .i64 0, .int .i64 0] [] _ rfl rfl agg_Log ZB8.out rfl rfl rfl (by simp [Value.oneCell']) ?_; intro v9 hzb hzg) | fail)
          have hRz : R = (⟨setLast segs ⟨lf, lt.take E⟩, lf + (C : Int), mark⟩, true) := by
            rw [HRZ.out]
            unfold cutL
            simp only [HLS.out, List.take_zero, ← HEE.out, ← HCE.out]
            rw [if_pos hmk]
          try rw [hRz]
          have hO9 := ownsRow_keep (base' := w.heap.size) HO8.out (w' := v9) (fun k hk => ⟨by have h1 := (HO8.out.lt k hk).1; have h2 := HZ1.out; omega, hzg.block k (HO8.out.lt k hk).2 (fun e => by injection e with e; have h1 := (HO8.out.lt k hk).1; have h2 := HZ1.out; omega)⟩)
          rw [← HLG5.out] at hO9
          exact bodyPost_cell2 rfl ⟨w.heap.size + 1, 0, none⟩ rfl [.slice (some ⟨g, 0, none⟩) (setLast segs ⟨lf, lt.take E⟩).length k1, .int .i64 (lf + (C : Int)), .int .i64 mark] _ rfl agg_Log rfl (by rw [HLG5.out]; exact blk_cells hzb) rfl ⟨_, rfl, own_log hO9, Below.grown BW8.out hzg BW8.out.size (fun k hk => by injection hk with hk; omega)⟩
        · have hmk2 : lf + (C : Int) ≤ mark := by omega
          have HX8 := Lib.hid (blk_put0 (blk_put0 HX5.out 1 (.int .i64 (lf + (C : Int)))) 2 (.int .i64 (lf + (C : Int) - 1)))
          have ZB8 := Lib.hid (Blk.setOther (Blk.setOther ZB5.out (a := ⟨v2.heap.size, 1, none⟩) (by have := HZ1.out; have := HZ2.out; show v2.heap.size ≠ _; omega) (.int .i64 (lf + (C : Int)))) (a := ⟨v2.heap.size, 2, none⟩) (by have := HZ1.out; have := HZ2.out; show v2.heap.size ≠ _; omega) (.int .i64 (lf + (C : Int) - 1)))
          have BW8 := Lib.hid (Below.setCell (Below.setCell BW5.out (p := ⟨v2.heap.size, 1, none⟩) (by have := HZ1.out; have := HZ2.out; show _ ≤ v2.heap.size; omega) (.int .i64 (lf + (C : Int)))) (p := ⟨v2.heap.size, 2, none⟩) (by have := HZ1.out; have := HZ2.out; show _ ≤ v2.heap.size; omega) (.int .i64 (lf + (C : Int) - 1)))
          have HO8 := Lib.hid (ownsRow_keep (base' := v1.heap.size) HO5.out (w' := (((v4.drew.setCell ⟨g, m * 2 + 1, none⟩ (.string (bs (lt.take E)))).setCell ⟨v2.heap.size, 1, none⟩ (.int .i64 (lf + (C : Int)))).setCell ⟨v2.heap.size, 2, none⟩ (.int .i64 (lf + (C : Int) - 1)))) (fun k hk => ⟨(HO5.out.lt k hk).1, by
            have e : some g = some k := hk
            injection e with e
            exact (Below.heap_setCell _ _ _ _ (fun e2 => by have e3 : k = v2.heap.size := e2; omega)).trans (Below.heap_setCell _ _ _ _ (fun e2 => by have e3 : k = v2.heap.size := e2; omega))⟩))
          go_wp2_with (first | ((with_reducible show wpList _ _ _ ({ dst := _, op := Op.load 46 _, type := _, pos := _, after := _, guard := _ } :: _) _ _); refine wpList_load_row _ ⟨v2.heap.size, 0, none⟩ rfl [.slice (some ⟨g, 0, none⟩) (m + 1) k1, .int .i64 (lf + (C : Int)), .int .i64 (lf + (C : Int) - 1)] agg_Log rfl (blk_cells HX8.out) ?_) | ((with_reducible show wpList _ _ _ ({ dst := _, op := Op.store 46 _ _, type := _, pos := _, after := _, guard := _ } :: _) _ _); refine wpList_store_row _ (w.heap.size + 1) 46 0 [.slice (some ⟨g, 0, none⟩) (m + 1) k1, .int .i64 (lf + (C : Int)), .int .i64 (lf + (C : Int) - 1)] [] [.slice none 0 0, .int .i64 0, .int .i64 0] [] _ rfl rfl agg_Log ZB8.out rfl rfl rfl (by simp [Value.oneCell']) ?_; intro v9 hzb hzg) | fail)
          have hRz : R = (⟨setLast segs ⟨lf, lt.take E⟩, lf + (C : Int), lf + (C : Int) - 1⟩, true) := by
            rw [HRZ.out]
            unfold cutL
            simp only [HLS.out, List.take_zero, ← HEE.out, ← HCE.out]
            rw [if_neg (by omega)]
          try rw [hRz]
          have hO9 := ownsRow_keep (base' := w.heap.size) HO8.out (w' := v9) (fun k hk => ⟨by have h1 := (HO8.out.lt k hk).1; have h2 := HZ1.out; omega, hzg.block k (HO8.out.lt k hk).2 (fun e => by injection e with e; have h1 := (HO8.out.lt k hk).1; have h2 := HZ1.out; omega)⟩)
          rw [← HLG5.out] at hO9
          exact bodyPost_cell2 rfl ⟨w.heap.size + 1, 0, none⟩ rfl [.slice (some ⟨g, 0, none⟩) (setLast segs ⟨lf, lt.take E⟩).length k1, .int .i64 (lf + (C : Int)), .int .i64 (lf + (C : Int) - 1)] _ rfl agg_Log rfl (by rw [HLG5.out]; exact blk_cells hzb) rfl ⟨_, rfl, own_log hO9, Below.grown BW8.out hzg BW8.out.size (fun k hk => by injection hk with hk; omega)⟩
      · skip
        have hkl' : ¬ (k : Int) < (lt.length : Int) := by omega
        have hRz : R = (⟨segs, next, mark⟩, true) := by
          rw [HR.out]; unfold fLogCut; rw [HXX.out, if_pos rfl, cut_all HLG.out (by rw [show (lastS (LogD.segs ⟨segs, next, mark⟩)) = lastS segs from rfl, HLS.out]; simp only []; omega)]
        have hmk2 : ¬ next ≤ mark := by omega
        go_wp2_with (first | ((with_reducible show wpList _ _ _ ({ dst := _, op := Op.store 46 _ _, type := _, pos := _, after := _, guard := _ } :: _) _ _); refine wpList_store_row _ v2.heap.size 46 0 [.slice (some ⟨g, 0, none⟩) (m + 1) k1, .int .i64 next, .int .i64 mark] [] [.slice none 0 0, .int .i64 0, .int .i64 0] [] _ rfl rfl agg_Log (blk_new v2 _ _) rfl rfl rfl (by simp [Value.oneCell']) ?_; intro v3 hsb hsg; have HO3 := Lib.hid ((HO.out.alloc (.cells #[.slice none 0 0, .int .i64 0, .int .i64 0] 46)).kept hsg (.inr (fun e => by have := (HO.out.lt _ e).2; omega))); have HX := Lib.hid (show Blk v3 v2.heap.size 46 [.slice (some ⟨g, 0, none⟩) (m + 1) k1, .int .i64 next, .int .i64 mark].toArray by simpa using hsb); have SB3 := Lib.hid ((SB.out.alloc (.cells #[.slice none 0 0, .int .i64 0, .int .i64 0] 46)).grown hsg (fun e => by have := SB.out.lt; omega)); have ZB3 := Lib.hid ((ZB.out.alloc (.cells #[.slice none 0 0, .int .i64 0, .int .i64 0] 46)).grown hsg (fun e => by have := ZB.out.lt; omega)); have BW3 := Lib.hid (Below.grown (BW.out.alloc BW.out.size _) hsg (Nat.le_trans BW.out.size (by simp)) (fun k hk => by injection hk with hk; have := BW.out.size; omega)); have HZ3 := Lib.hid (show v2.heap.size + 1 ≤ v3.heap.size from Nat.le_trans (by simp) hsg.size); have hx0 : World.cell? v3 ⟨v2.heap.size, 0, none⟩ = some (.slice (some ⟨g, 0, none⟩) (m + 1) k1) := blk_cell0 (L := [.slice (some ⟨g, 0, none⟩) (m + 1) k1, .int .i64 next, .int .i64 mark]) HX.out 0 rfl; have hx1 : World.cell? v3 ⟨v2.heap.size, 1, none⟩ = some (.int .i64 next) := blk_cell0 (L := [.slice (some ⟨g, 0, none⟩) (m + 1) k1, .int .i64 next, .int .i64 mark]) HX.out 1 rfl; have hx2 : World.cell? v3 ⟨v2.heap.size, 2, none⟩ = some (.int .i64 mark) := blk_cell0 (L := [.slice (some ⟨g, 0, none⟩) (m + 1) k1, .int .i64 next, .int .i64 mark]) HX.out 2 rfl; have hcb1 := World.ownsRow.cells (g := g) HO3.out rfl (m * 2 + 1) _ HCG.out.2; rw [add_plain, Nat.zero_add] at hcb1; clear hsb hsg) | ((with_reducible show wpList _ _ _ ({ dst := _, op := Op.load 46 _, type := _, pos := _, after := _, guard := _ } :: _) _ _); refine wpList_load_row _ ⟨v2.heap.size, 0, none⟩ rfl [.slice (some ⟨g, 0, none⟩) (m + 1) k1, .int .i64 next, .int .i64 mark] agg_Log rfl (blk_cells HX.out) ?_) | ((with_reducible show wpList _ _ _ ({ dst := _, op := Op.store 46 _ _, type := _, pos := _, after := _, guard := _ } :: _) _ _); refine wpList_store_row _ (w.heap.size + 1) 46 0 [.slice (some ⟨g, 0, none⟩) (m + 1) k1, .int .i64 next, .int .i64 mark] [] [.slice none 0 0, .int .i64 0, .int .i64 0] [] _ rfl rfl agg_Log ZB3.out rfl rfl rfl (by simp [Value.oneCell']) ?_; intro v9 hzb hzg) | fail)
        try rw [hRz]
        have hO9 := ownsRow_keep (base' := w.heap.size) HO3.out (w' := v9) (fun k hk => ⟨by have h1 := (HO3.out.lt k hk).1; have h2 := HZ1.out; omega, hzg.block k (HO3.out.lt k hk).2 (fun e => by injection e with e; have h1 := (HO3.out.lt k hk).1; have h2 := HZ1.out; omega)⟩)
        rw [← HM.out] at hO9
        exact bodyPost_cell2 rfl ⟨w.heap.size + 1, 0, none⟩ rfl [.slice (some ⟨g, 0, none⟩) segs.length k1, .int .i64 next, .int .i64 mark] _ rfl agg_Log rfl (by rw [HM.out]; exact blk_cells hzb) rfl ⟨_, rfl, own_log hO9, Below.grown BW3.out hzg BW3.out.size (fun k hk => by injection hk with hk; omega)⟩

end Go.Proofs.Ytifdkjddiohahaa
