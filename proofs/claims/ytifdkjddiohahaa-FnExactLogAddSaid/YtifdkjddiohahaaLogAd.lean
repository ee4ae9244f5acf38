/-
  A record more in a log: impl.LogAdd, spec.LogAdd. Conditions: bounds on the sizes.
-/
import Derived.Test.YtifdkjddiohahaaLogCt
namespace Go.Proofs.Ytifdkjddiohahaa
open Go.RowKit

theorem addS_wt {l : LogD} {f : List UInt8} (h : 1 ≤ l.segs.length) (hf : f.length ≤ 211) : (addS l f).length + (cat SegD.c (addS l f)).wt ≤ l.segs.length + (cat SegD.c l.segs).wt + 212 := by
  unfold addS
  split
  · have hs := setLast_wt (xs := l.segs) (f := (lastS l.segs).first) (t := (lastS l.segs).text ++ f) h
    rw [List.length_append] at hs
    rw [setLast_length]
    omega
  · have ht := trimS_le l.mark (l.segs ++ [⟨l.next, f⟩])
    rw [cat_app, Cs.wt_app, cat_one, List.length_append] at ht
    have e2 : (SegD.c ⟨l.next, f⟩).wt = f.length + 0 := rfl
    simp only [List.length_cons, List.length_nil] at ht
    omega
theorem bLogAdd (l : LogD) (t : List UInt8) (h : l.c.wt ≤ 1048576) (_ : t.length ≤ 1048576) : (fLogAdd l t).1.c.wt ≤ 4611686018427387 ∧ (fLogAdd l t).1.cntT ≤ 4611686018427387 := by
  have h0 : l.c.wt = l.segs.length + (cat SegD.c l.segs).wt + 0 := rfl
  refine log_key _ ?_
  unfold fLogAdd
  split
  · rename_i hg
    have hl := (logOk_iff.1 hg).1
    have hf := frameL_le t
    have hs := addS_wt (l := l) (f := frameL t) hl hf
    split
    · show l.c.wt ≤ _; omega
    · have e : (LogD.c ⟨addS l (frameL t), l.next + 1, l.mark⟩).wt = (addS l (frameL t)).length + (cat SegD.c (addS l (frameL t))).wt + 0 := rfl
      show (LogD.c ⟨addS l (frameL t), l.next + 1, l.mark⟩).wt ≤ _
      omega
  · exact Nat.zero_le _
theorem unfr_empty : ∀ (f : Nat) (s : List UInt8), (unfr f s).1 = [] → (unfr f s).2 = 0
  | 0, s, _ => by simp [unfr]
  | f + 1, s, h => by
    cases h1 : frame1 s with
    | none => rw [unfr_none h1]
    | some t => rw [unfr_some h1] at h; simp at h
theorem one_frame {s : List UInt8} (hE : endU s = s.length) (hc : cntU s = 1) : s.length ≤ 211 := by
  have hE' : (unframeL s).2 = s.length := hE
  have hc' : (unframeL s).1.length = 1 := hc
  rw [unframeL_eq] at hE' hc'
  cases h1 : frame1 s with
  | none => rw [unfr_none h1] at hc'; simp at hc'
  | some t =>
    rw [unfr_some h1] at hE' hc'
    simp only [List.length_cons] at hc'
    have h2 := unfr_empty s.length (s.drop (frameL t).length) (List.eq_nil_of_length_eq_zero (by omega))
    simp only [h2] at hE'
    have := frameL_le t
    omega
theorem okSeg_len {s : SegD} {b : Int} (h : okSeg s b) : s.text.length ≤ 211 := by
  by_cases h60 : 60 < s.text.length
  · exact one_frame h.1 (h.2.1 h60)
  · omega
theorem preF_wt {mark : Int} {b : Int} : ∀ {xs : List SegD} {a : Int}, preF mark xs a = some b → (cat SegD.c xs).wt ≤ 211 * xs.length
  | [], _, _ => by simp [cat, Cs.wt]
  | x :: xs, a, h => by
    rw [preF] at h
    split at h
    · cases h
    · rename_i hh
      simp only [not_or, Classical.not_not, not_and] at hh
      have h1 := preF_wt h
      have h2 := okSeg_len (s := x) (b := x.first) ⟨hh.1, fun h => hh.2.1 h, rfl⟩
      have e2 : (SegD.c x).wt = x.text.length + 0 := rfl
      rw [cat_cons, Cs.wt_app, List.length_cons]
      omega
theorem good_wt {l : LogD} (h : LogGood l) : l.segs.length + (cat SegD.c l.segs).wt ≤ 1272 := by
  obtain ⟨segs, next, mark⟩ := l
  obtain ⟨xs, s, rfl⟩ := snoc_of h.1
  obtain ⟨hp, ok, _, hl, _⟩ := good_snoc h
  have h1 := preF_wt hp
  have h2 := okSeg_len ok
  have e2 : (SegD.c s).wt = s.text.length + 0 := rfl
  simp only [cat_app, Cs.wt_app, cat_one, List.length_append, List.length_cons, List.length_nil]
  omega
theorem segCells_snoc (xs : List SegD) (s : SegD) : segCells (xs ++ [s]) = segCells xs ++ [.int .i64 s.first, .string (bs s.text)] := segCells_app xs [s]


set_option maxRecDepth 100000 in
set_option maxHeartbeats 40000000 in
theorem iLogAdd_any (x : LogD) (t : List UInt8) (cs : List Value) (w : World) (hwt : x.c.wt ≤ 1048576) (ht : t.length ≤ 1048576) (h : Rep anyB w x.c cs) :
    Calls Try.prog 54 #[.agg cs.toArray, .string (bs t)] w fun e w' => ∃ cs', e = .returned (.tuple #[.agg cs'.toArray, .bool (fLogAdd x t).2]) ∧ Mine w' w.heap.size (fLogAdd x t).1.c cs' ∧ Below w.heap.size w w' := by
  have hw0 : x.c.wt = x.segs.length + (cat SegD.c x.segs).wt + 0 := rfl
  have HA := Lib.hid h
  have HW := Lib.hid hwt
  obtain ⟨A0, k0, rfl, _⟩ := LogD.open h
  have HSF := Lib.hid (@seg_first x)
  have HGD := Lib.hid (@logOk_iff x)
  obtain ⟨R, hR⟩ : ∃ R, R = fLogAdd x t := ⟨_, rfl⟩
  rw [← hR]
  obtain ⟨segs, next, mark⟩ := x
  simp only [] at hw0 hR HA HW HSF HGD ⊢
  have HR := Lib.hid hR; clear hR
  have hn1 : segs.length ≤ 1048576 := by omega
  have hwl := fun j hj => seg_wt_le (xs := segs) j hj
  have HWL := Lib.hid hwl; clear hwl
  have hw1 : (cat SegD.c segs).wt ≤ 1048576 := by omega
  clear h hwt hw0
  go_enter Try.func54, Try.ntmps54
  go_wp2_with fail
  refine (iLogOk_any ⟨segs, next, mark⟩ _ _ HW.out (HA.out.below (by repeat' (first | with_reducible exact Below.refl _ _ | with_reducible exact BW.out | with_reducible refine Below.setCell ?_ ?_ _ | with_reducible refine Below.alloc ?_ ?_ _ | with_reducible refine Below.drew ?_ | (simp; done) | (simp; omega) | omega)))).mono ?_; rintro e v1 ⟨rfl, hb⟩
  have SB := Lib.hid (Blk.below (blk2_0 _ _ _ _) hb)
  have ZB := Lib.hid (Blk.below (blk2_1 _ _ _ _) hb)
  have BW := Lib.hid (show Below w.heap.size w v1 from Below.trans (by repeat' (first | with_reducible exact Below.refl _ _ | with_reducible exact BW.out | with_reducible refine Below.setCell ?_ ?_ _ | with_reducible refine Below.alloc ?_ ?_ _ | with_reducible refine Below.drew ?_ | (simp; done) | (simp; omega) | omega)) (hb.mono (by first | (simp; done) | (simp; omega) | omega)))
  have HZ1 := Lib.hid (show w.heap.size + 1 + 1 ≤ v1.heap.size from Nat.le_trans (by simp) hb.size); clear hb
  cases hx : logOkB ⟨segs, next, mark⟩
  case false =>
    have hRz : R = (⟨[], 0, 0⟩, false) := by rw [HR.out]; unfold fLogAdd; rw [hx]; first | rfl | (rw [if_neg (by simp)])
    subst hRz
    clear HR HSF HGD
    go_wp2_with (first | ((with_reducible show wpList _ _ _ ({ dst := _, op := Op.store 46 _ _, type := _, pos := _, after := _, guard := _ } :: _) _ _); refine wpList_store_row _ (w.heap.size + 1) 46 0 [.slice none 0 0, .int .i64 0, .int .i64 0] [] [.slice none 0 0, .int .i64 0, .int .i64 0] [] _ rfl rfl agg_Log ZB.out rfl rfl rfl (by simp [Value.oneCell']) ?_; intro v9 hzb hzg) | fail)
    exact bodyPost_cell2 rfl ⟨w.heap.size + 1, 0, none⟩ rfl [.slice none 0 0, .int .i64 0, .int .i64 0] _ rfl agg_Log rfl (blk_cells hzb) rfl ⟨_, rfl, own_log (xs := []) (own_none _ _ _ _), Below.grown BW.out hzg BW.out.size (fun k hk => by injection hk with hk; omega)⟩
  case true =>
    have hgd := HGD.out.1 hx
    have HLG := Lib.hid hgd
    obtain ⟨hl1, _, _, _, _, hnx, hm0, hmn⟩ := hgd
    simp only [] at hl1 hnx hm0 hmn
    have HF := Lib.hid (HSF.out hx)
    have HXX := Lib.hid hx
    clear HSF HGD hx
    obtain ⟨m, hm⟩ : ∃ m, segs.length = m + 1 := ⟨segs.length - 1, by omega⟩
    have HM := Lib.hid hm; clear hm
    clear hl1
    go_wp2_with (first | ((with_reducible show wpList _ _ _ ({ dst := _, op := Op.load 46 _, type := _, pos := _, after := _, guard := _ } :: _) _ _); refine wpList_load_row _ ⟨w.heap.size, 0, none⟩ rfl [.slice A0 segs.length k0, .int .i64 next, .int .i64 mark] agg_Log rfl (blk_cells SB.out) ?_) | fail)
    refine (copyLog_any ⟨segs, next, mark⟩ _ _ HW.out (HA.out.below BW.out)).mono ?_; rintro e v2 ⟨cs', rfl, hM, hb⟩
    obtain ⟨A1, k1, rfl, hrow⟩ := log_own hM
    simp only [] at hrow ⊢
    rw [HM.out] at hrow ⊢
    obtain ⟨g, c', he, hg1, hg2⟩ := own_form hrow (by omega)
    injection he with he _ hec
    subst he hec
    have hcap : m + 1 ≤ k1 := own_cap hrow
    clear hM
    have HO := Lib.hid hrow; clear hrow
    have X := Lib.hid (SB.out.below hb); clear SB
    have SB := Lib.hid X.out; clear X
    have X := Lib.hid (ZB.out.below hb); clear ZB
    have ZB := Lib.hid X.out; clear X
    have HZ2 := Lib.hid hb.size
    have X := Lib.hid (show Below w.heap.size w v2 from BW.out.trans (hb.mono BW.out.size)); clear BW hb
    have BW := Lib.hid X.out; clear X
    obtain ⟨lf, lt, hls⟩ : ∃ lf lt, lastS segs = ⟨lf, lt⟩ := ⟨_, _, rfl⟩
    have hlb := HF.out _ (lastS_mem (xs := segs) (by have := HM.out; omega))
    rw [hls] at hlb
    simp only [] at hlb
    obtain ⟨hlf1, hlf2⟩ := hlb
    have hll := last_wt segs
    rw [hls] at hll
    simp only [] at hll
    have hlen : lt.length ≤ 1048576 := by omega
    have HLS := Lib.hid hls; clear hls hll
    have hmb : m ≤ 1048576 := by have := HM.out; omega
    rw [HM.out] at SB
    have ha2 := HA.out
    rw [HM.out] at ha2
    have HA2 := Lib.hid ha2; clear ha2
    have hfl := frameL_le t
    obtain ⟨F, hF⟩ : ∃ F, F = frameL t := ⟨_, rfl⟩
    rw [← hF] at hfl
    have HF1 := Lib.hid hF; clear hF
    have hcg := segCells_get HM.out
    rw [HLS.out] at hcg
    simp only [] at hcg
    have HCG := Lib.hid hcg; clear hcg
    have hRz : R = if F = [] ∨ 6 < (addS ⟨segs, next, mark⟩ F).length ∨ 1000 < next + 1 then (⟨segs, next, mark⟩, false) else (⟨addS ⟨segs, next, mark⟩ F, next + 1, mark⟩, true) := by
      rw [HR.out, HF1.out]; unfold fLogAdd; rw [HXX.out, if_pos rfl]
    clear HR
    have HR := Lib.hid hRz; clear hRz
    go_wp2_with (first | ((with_reducible show wpList _ _ _ ({ dst := _, op := Op.store 46 _ _, type := _, pos := _, after := _, guard := _ } :: _) _ _); refine wpList_store_row _ v2.heap.size 46 0 [.slice (some ⟨g, 0, none⟩) (m + 1) k1, .int .i64 next, .int .i64 mark] [] [.slice none 0 0, .int .i64 0, .int .i64 0] [] _ rfl rfl agg_Log (blk_new v2 _ _) rfl rfl rfl (by simp [Value.oneCell']) ?_; intro v3 hsb hsg; have HO3 := Lib.hid ((HO.out.alloc (.cells #[.slice none 0 0, .int .i64 0, .int .i64 0] 46)).kept hsg (.inr (fun e => by have := (HO.out.lt _ e).2; omega))); have HX := Lib.hid (show Blk v3 v2.heap.size 46 [.slice (some ⟨g, 0, none⟩) (m + 1) k1, .int .i64 next, .int .i64 mark].toArray by simpa using hsb); have SB3 := Lib.hid ((SB.out.alloc (.cells #[.slice none 0 0, .int .i64 0, .int .i64 0] 46)).grown hsg (fun e => by have := SB.out.lt; omega)); have ZB3 := Lib.hid ((ZB.out.alloc (.cells #[.slice none 0 0, .int .i64 0, .int .i64 0] 46)).grown hsg (fun e => by have := ZB.out.lt; omega)); have BW3 := Lib.hid (Below.grown (BW.out.alloc BW.out.size _) hsg (Nat.le_trans BW.out.size (by simp)) (fun k hk => by injection hk with hk; have := BW.out.size; omega)); have HZ3 := Lib.hid (show v2.heap.size + 1 ≤ v3.heap.size from Nat.le_trans (by simp) hsg.size); clear hsb hsg) | fail)
    refine (iFrame_any t _ (by omega)).mono ?_; rintro e v4 ⟨rfl, hb⟩
    rw [← HF1.out]
    have HO4 := Lib.hid (HO3.out.keptBelow hb)
    have HX4 := Lib.hid (HX.out.below hb)
    have ZB4 := Lib.hid (ZB3.out.below hb)
    have SB4 := Lib.hid (SB3.out.below hb)
    have BW4 := Lib.hid (show Below w.heap.size w v4 from BW3.out.trans (hb.mono BW3.out.size))
    have HZ4 := Lib.hid (Nat.le_trans HZ3.out hb.size)
    clear hb HO3 HX ZB3 BW3 HZ3 SB3
    have hx0 : World.cell? v4 ⟨v2.heap.size, 0, none⟩ = some (.slice (some ⟨g, 0, none⟩) (m + 1) k1) := blk_cell0 (L := [.slice (some ⟨g, 0, none⟩) (m + 1) k1, .int .i64 next, .int .i64 mark]) HX4.out 0 rfl
    have hx1 : World.cell? v4 ⟨v2.heap.size, 1, none⟩ = some (.int .i64 next) := blk_cell0 (L := [.slice (some ⟨g, 0, none⟩) (m + 1) k1, .int .i64 next, .int .i64 mark]) HX4.out 1 rfl
    have hfx1 : World.frozen? v4 ⟨v2.heap.size, 1, none⟩ = false := HX4.out.frozen 1
    have hp1 : World.cell? v4 ⟨w.heap.size, 1, none⟩ = some (.int .i64 next) := blk_cell0 (L := [.slice A0 (m + 1) k0, .int .i64 next, .int .i64 mark]) SB4.out 1 rfl
    have hcb1 := World.ownsRow.cells (g := g) HO4.out rfl (m * 2 + 1) _ HCG.out.2
    rw [add_plain, Nat.zero_add] at hcb1
    have hfz1 : v4.frozen? ⟨g, m * 2 + 1, none⟩ = false := HO4.out.frozenAt (m * 2 + 1)
    have hgx : ¬ g = v2.heap.size := by omega
    have hgx2 : ¬ v2.heap.size = g := by omega
    have hgw : ¬ g = w.heap.size := by have := HZ1.out; omega
    have hgw2 : ¬ w.heap.size = g := by have := HZ1.out; omega
    have hxw : ¬ v2.heap.size = w.heap.size := by have := HZ1.out; have := HZ2.out; omega
    have hxw2 : ¬ w.heap.size = v2.heap.size := by have := HZ1.out; have := HZ2.out; omega
    by_cases hF0 : F = []
    · subst hF0
      by_cases hl0 : lt = []
      · subst hl0
        have haS : addS ⟨segs, next, mark⟩ [] = setLast segs ⟨lf, []⟩ := by
          unfold addS
          simp only [HLS.out]
          split
          · first | rfl | simp
          · rename_i h
            exact (h (by first | exact .inl trivial | exact .inl rfl | exact .inr h60)).elim
        have hal : (addS ⟨segs, next, mark⟩ []).length = m + 1 := by rw [haS, setLast_length, HM.out]
        rw [hal, haS] at HR
        have hsts := segCells_set HM.out ([])
        rw [HLS.out] at hsts
        simp only [] at hsts
        have hst := HO4.out.stored (m * 2 + 1) (.string (bs ([])))
        rw [hsts] at hst
        have HO5 := Lib.hid hst.1
        have HG5 := Lib.hid hst.2
        have HX5 := Lib.hid (HX4.out.grown HG5.out (fun e => hgx e.symm))
        have ZB5 := Lib.hid (ZB4.out.grown HG5.out (fun e => by have := HZ1.out; omega))
        have SB5 := Lib.hid (SB4.out.grown HG5.out (fun e => by have := HZ1.out; omega))
        have BW5 := Lib.hid (Below.grown BW4.out HG5.out BW4.out.size (fun k hk => by injection hk with hk; have := HZ1.out; omega))
        have HLG5 := Lib.hid ((setLast_length segs ⟨lf, []⟩).trans HM.out)
        clear hsts hst haS hal
        have HX8 := Lib.hid (blk_put0 HX5.out 1 (.int .i64 (next + 1)))
        have ZB8 := Lib.hid (Blk.setOther ZB5.out (a := ⟨v2.heap.size, 1, none⟩) (by have := HZ1.out; have := HZ2.out; show v2.heap.size ≠ _; omega) (.int .i64 (next + 1)))
        have SB8 := Lib.hid (Blk.setOther SB5.out (a := ⟨v2.heap.size, 1, none⟩) (by have := HZ1.out; have := HZ2.out; show v2.heap.size ≠ _; omega) (.int .i64 (next + 1)))
        have BW8 := Lib.hid (Below.setCell BW5.out (p := ⟨v2.heap.size, 1, none⟩) (by have := HZ1.out; have := HZ2.out; show _ ≤ v2.heap.size; omega) (.int .i64 (next + 1)))
        have HO8 := Lib.hid (ownsRow_keep (base' := v1.heap.size) HO5.out (w' := (v4.setCell ⟨g, m * 2 + 1, none⟩ (.string (bs ([])))).setCell ⟨v2.heap.size, 1, none⟩ (.int .i64 (next + 1))) (fun k hk => ⟨(HO5.out.lt k hk).1, by
          have e : some g = some k := hk
          injection e with e
          exact Below.heap_setCell _ _ _ _ (fun e2 => by have e3 : k = v2.heap.size := e2; omega)⟩))
        have HZ8 := Lib.hid (show v2.heap.size + 1 ≤ (World.heap ((v4.setCell ⟨g, m * 2 + 1, none⟩ (.string (bs ([])))).setCell ⟨v2.heap.size, 1, none⟩ (.int .i64 (next + 1)))).size by rw [setCell_size, setCell_size]; exact HZ4.out)
        clear HO4 HX4 ZB4 SB4 BW4 HG5 HO5 HX5 ZB5 SB5 BW5
        have hm6 : ¬ (6 : Int) < (m : Int) + 1 := by have := HM.out; have := HLG.out.2.1; simp only [] at this; omega
        go_wp2_with (first | ((with_reducible show wpList _ _ _ ({ dst := _, op := Op.load 46 _, type := _, pos := _, after := _, guard := _ } :: _) _ _); refine wpList_load_row _ ⟨w.heap.size, 0, none⟩ rfl [.slice A0 (m + 1) k0, .int .i64 next, .int .i64 mark] agg_Log rfl (blk_cells SB8.out) ?_) | fail)
        refine (copyLog_any ⟨segs, next, mark⟩ _ _ HW.out (HA2.out.below BW8.out)).mono ?_
        rintro e v9 ⟨cs', rfl, hM, hb⟩
        obtain ⟨A9, k9, rfl, hrow9⟩ := log_own hM
        simp only [] at hrow9 ⊢
        have hRz : R = (⟨segs, next, mark⟩, false) := by
          rw [HR.out, if_pos]
          first | (simp; done) | exact .inr (.inr (by omega)) | exact .inr (.inl (by omega))
        have HRZ := Lib.hid hRz; clear hRz
        have HO9 := Lib.hid hrow9
        have ZB9 := Lib.hid (ZB8.out.below hb)
        have BW9 := Lib.hid (show Below w.heap.size w v9 from BW8.out.trans (hb.mono BW8.out.size))
        have HZ9 := Lib.hid (show w.heap.size + 1 + 1 ≤ (World.heap ((v4.setCell ⟨g, m * 2 + 1, none⟩ (.string (bs ([])))).setCell ⟨v2.heap.size, 1, none⟩ (.int .i64 (next + 1)))).size from by have := HZ8.out; have := HZ1.out; have := HZ2.out; omega)
        clear hM hb hrow9
        go_wp2_with (first | ((with_reducible show wpList _ _ _ ({ dst := _, op := Op.store 46 _ _, type := _, pos := _, after := _, guard := _ } :: _) _ _); refine wpList_store_row _ (w.heap.size + 1) 46 0 [.slice A9 segs.length k9, .int .i64 next, .int .i64 mark] [] [.slice none 0 0, .int .i64 0, .int .i64 0] [] _ rfl rfl agg_Log ZB9.out rfl rfl rfl (by simp [Value.oneCell']) ?_; intro v10 hzb hzg) | fail)
        rw [HRZ.out]
        have hO10 := ownsRow_keep (base' := w.heap.size) HO9.out (w' := v10) (fun k hk => ⟨by have h1 := (HO9.out.lt k hk).1; have h2 := HZ9.out; omega, hzg.block k (HO9.out.lt k hk).2 (fun e => by injection e with e; have h1 := (HO9.out.lt k hk).1; have h2 := HZ9.out; omega)⟩)
        exact bodyPost_cell2 rfl ⟨w.heap.size + 1, 0, none⟩ rfl [.slice A9 segs.length k9, .int .i64 next, .int .i64 mark] _ rfl agg_Log rfl (blk_cells hzb) rfl ⟨_, rfl, own_log hO10, Below.grown BW9.out hzg BW9.out.size (fun k hk => by injection hk with hk; omega)⟩
      · have hE1 : lt.isEmpty = false := by cases lt with | nil => exact absurd rfl hl0 | cons _ _ => rfl
        by_cases h60 : lt.length + ([] : List UInt8).length ≤ 60
        · have h60' : (lt.length : Int) ≤ 60 := by first | omega | (simp at h60; omega)
          have haS : addS ⟨segs, next, mark⟩ [] = setLast segs ⟨lf, lt⟩ := by
            unfold addS
            simp only [HLS.out]
            split
            · first | rfl | simp
            · rename_i h
              exact (h (by first | exact .inl trivial | exact .inl rfl | exact .inr h60)).elim
          have hal : (addS ⟨segs, next, mark⟩ []).length = m + 1 := by rw [haS, setLast_length, HM.out]
          rw [hal, haS] at HR
          have hsts := segCells_set HM.out (lt)
          rw [HLS.out] at hsts
          simp only [] at hsts
          have hst := HO4.out.stored (m * 2 + 1) (.string (bs (lt)))
          rw [hsts] at hst
          have HO5 := Lib.hid hst.1
          have HG5 := Lib.hid hst.2
          have HX5 := Lib.hid (HX4.out.grown HG5.out (fun e => hgx e.symm))
          have ZB5 := Lib.hid (ZB4.out.grown HG5.out (fun e => by have := HZ1.out; omega))
          have SB5 := Lib.hid (SB4.out.grown HG5.out (fun e => by have := HZ1.out; omega))
          have BW5 := Lib.hid (Below.grown BW4.out HG5.out BW4.out.size (fun k hk => by injection hk with hk; have := HZ1.out; omega))
          have HLG5 := Lib.hid ((setLast_length segs ⟨lf, lt⟩).trans HM.out)
          clear hsts hst haS hal
          have HX8 := Lib.hid (blk_put0 HX5.out 1 (.int .i64 (next + 1)))
          have ZB8 := Lib.hid (Blk.setOther ZB5.out (a := ⟨v2.heap.size, 1, none⟩) (by have := HZ1.out; have := HZ2.out; show v2.heap.size ≠ _; omega) (.int .i64 (next + 1)))
          have SB8 := Lib.hid (Blk.setOther SB5.out (a := ⟨v2.heap.size, 1, none⟩) (by have := HZ1.out; have := HZ2.out; show v2.heap.size ≠ _; omega) (.int .i64 (next + 1)))
          have BW8 := Lib.hid (Below.setCell BW5.out (p := ⟨v2.heap.size, 1, none⟩) (by have := HZ1.out; have := HZ2.out; show _ ≤ v2.heap.size; omega) (.int .i64 (next + 1)))
          have HO8 := Lib.hid (ownsRow_keep (base' := v1.heap.size) HO5.out (w' := (v4.setCell ⟨g, m * 2 + 1, none⟩ (.string (bs (lt)))).setCell ⟨v2.heap.size, 1, none⟩ (.int .i64 (next + 1))) (fun k hk => ⟨(HO5.out.lt k hk).1, by
            have e : some g = some k := hk
            injection e with e
            exact Below.heap_setCell _ _ _ _ (fun e2 => by have e3 : k = v2.heap.size := e2; omega)⟩))
          have HZ8 := Lib.hid (show v2.heap.size + 1 ≤ (World.heap ((v4.setCell ⟨g, m * 2 + 1, none⟩ (.string (bs (lt)))).setCell ⟨v2.heap.size, 1, none⟩ (.int .i64 (next + 1)))).size by rw [setCell_size, setCell_size]; exact HZ4.out)
          clear HO4 HX4 ZB4 SB4 BW4 HG5 HO5 HX5 ZB5 SB5 BW5
          have hm6 : ¬ (6 : Int) < (m : Int) + 1 := by have := HM.out; have := HLG.out.2.1; simp only [] at this; omega
          go_wp2_with (first | ((with_reducible show wpList _ _ _ ({ dst := _, op := Op.load 46 _, type := _, pos := _, after := _, guard := _ } :: _) _ _); refine wpList_load_row _ ⟨w.heap.size, 0, none⟩ rfl [.slice A0 (m + 1) k0, .int .i64 next, .int .i64 mark] agg_Log rfl (blk_cells SB8.out) ?_) | fail)
          refine (copyLog_any ⟨segs, next, mark⟩ _ _ HW.out (HA2.out.below BW8.out)).mono ?_
          rintro e v9 ⟨cs', rfl, hM, hb⟩
          obtain ⟨A9, k9, rfl, hrow9⟩ := log_own hM
          simp only [] at hrow9 ⊢
          have hRz : R = (⟨segs, next, mark⟩, false) := by
            rw [HR.out, if_pos]
            first | (simp; done) | exact .inr (.inr (by omega)) | exact .inr (.inl (by omega))
          have HRZ := Lib.hid hRz; clear hRz
          have HO9 := Lib.hid hrow9
          have ZB9 := Lib.hid (ZB8.out.below hb)
          have BW9 := Lib.hid (show Below w.heap.size w v9 from BW8.out.trans (hb.mono BW8.out.size))
          have HZ9 := Lib.hid (show w.heap.size + 1 + 1 ≤ (World.heap ((v4.setCell ⟨g, m * 2 + 1, none⟩ (.string (bs (lt)))).setCell ⟨v2.heap.size, 1, none⟩ (.int .i64 (next + 1)))).size from by have := HZ8.out; have := HZ1.out; have := HZ2.out; omega)
          clear hM hb hrow9
          go_wp2_with (first | ((with_reducible show wpList _ _ _ ({ dst := _, op := Op.store 46 _ _, type := _, pos := _, after := _, guard := _ } :: _) _ _); refine wpList_store_row _ (w.heap.size + 1) 46 0 [.slice A9 segs.length k9, .int .i64 next, .int .i64 mark] [] [.slice none 0 0, .int .i64 0, .int .i64 0] [] _ rfl rfl agg_Log ZB9.out rfl rfl rfl (by simp [Value.oneCell']) ?_; intro v10 hzb hzg) | fail)
          rw [HRZ.out]
          have hO10 := ownsRow_keep (base' := w.heap.size) HO9.out (w' := v10) (fun k hk => ⟨by have h1 := (HO9.out.lt k hk).1; have h2 := HZ9.out; omega, hzg.block k (HO9.out.lt k hk).2 (fun e => by injection e with e; have h1 := (HO9.out.lt k hk).1; have h2 := HZ9.out; omega)⟩)
          exact bodyPost_cell2 rfl ⟨w.heap.size + 1, 0, none⟩ rfl [.slice A9 segs.length k9, .int .i64 next, .int .i64 mark] _ rfl agg_Log rfl (blk_cells hzb) rfl ⟨_, rfl, own_log hO10, Below.grown BW9.out hzg BW9.out.size (fun k hk => by injection hk with hk; omega)⟩
        · have h60' : ¬ (lt.length : Int) ≤ 60 := by first | omega | (simp at h60; omega)
          have haS : addS ⟨segs, next, mark⟩ [] = trimS mark (segs ++ [⟨next, []⟩]) := by
            unfold addS
            simp only [HLS.out]
            rw [if_neg (by rintro (h | h); exact hl0 h; first | omega | (simp at h; omega))]
          rw [haS] at HR
          obtain ⟨TS, hTS⟩ : ∃ T, T = trimS mark (segs ++ [⟨next, []⟩]) := ⟨_, rfl⟩
          rw [← hTS] at HR
          have htl := (trimS_le mark (segs ++ [⟨next, []⟩])).1
          rw [← hTS] at htl
          have htl2 : TS.length ≤ 1048580 := by have := HM.out; simp at htl; omega
          have HTS := Lib.hid hTS; clear hTS htl haS
          have hfx0 : World.frozen? v4 ⟨v2.heap.size, 0, none⟩ = false := HX4.out.frozen 0
          go_wp2_with (first
            | (at_builtin; go_must (refine wpList_app E_Seg _ rfl _ _ rfl v1.heap.size _ (m + 1) _ rfl (HO4.out.alloc _) _ _ _ _ rfl (Reads.new rfl) (by simp [Value.oneCell']) (by omega) (by have := HZ2.out; have := HZ4.out; simp; omega) ?_; intro vv v5 hown hg5 hat; obtain ⟨Av, kv, rfl, _⟩ := SlR.of_own hown; have hcb := Blk.keep (HX4.out.alloc (.cells #[.int .i64 next, .string (bs [])] 90)) (hg5.block _ (HX4.out.alloc _).lt (fun e => by have e2 : some v2.heap.size = some g := e; injection e2 with e2; omega)); have hq5 : v5.cell? ⟨v2.heap.size, 0, none⟩ = some (.slice (some ⟨g, 0, none⟩) (m + 1) k1) := blk_cell0 (L := [.slice (some ⟨g, 0, none⟩) (m + 1) k1, .int .i64 next, .int .i64 mark]) hcb 0 rfl; have hfz5 : v5.frozen? ⟨v2.heap.size, 0, none⟩ = false := hcb.frozen 0; have HX5 := Lib.hid hcb; have HO5 := Lib.hid hown; have HG5 := Lib.hid hg5; have HAT := Lib.hid hat; clear hcb hown hg5 hat))
            | fail)
          have hbv : ∀ k, (Value.slice Av (m + 1 + 1) kv).ownBlock = some k → k ≠ v2.heap.size := fun k hk e => by
            rcases HAT.out with h | h
            · have e1 : some g = some k := h.symm.trans hk
              injection e1 with e1; omega
            · have e1 := hk.symm.trans h
              injection e1 with e1
              have := HZ4.out
              simp at e1
              omega
          have hcells : segCells segs ++ #[Value.int .i64 next, Value.string (bs [])].toList = segCells (segs ++ [⟨next, []⟩]) := by rw [segCells_snoc]
          have HSZ5 := Lib.hid (show v4.heap.size + 1 ≤ v5.heap.size from Nat.le_trans (by simp) HG5.out.size)
          have hown6 : (v5.setCell ⟨v2.heap.size, 0, none⟩ (.slice Av (m + 1 + 1) kv)).ownsRow v1.heap.size 90 2 (.slice Av (m + 1 + 1) kv) (m + 1 + 1) (segCells (segs ++ [⟨next, []⟩])) := by
            rw [← hcells]
            exact ownsRow_keep HO5.out (fun k hk => ⟨(HO5.out.lt k hk).1, Below.heap_setCell _ _ _ _ (hbv k hk)⟩)
          have hzb5 := Blk.keep (ZB4.out.alloc (.cells #[.int .i64 next, .string (bs [])] 90)) (HG5.out.block _ (ZB4.out.alloc _).lt (fun e => by have e2 : some (w.heap.size + 1) = some g := e; injection e2 with e2; have := HZ1.out; omega))
          have hsb5 := Blk.keep (SB4.out.alloc (.cells #[.int .i64 next, .string (bs [])] 90)) (HG5.out.block _ (SB4.out.alloc _).lt (fun e => by have e2 : some w.heap.size = some g := e; injection e2 with e2; have := HZ1.out; omega))
          have hbw5 : Below w.heap.size w v5 := Below.grown (BW4.out.alloc BW4.out.size _) HG5.out (Nat.le_trans BW4.out.size (by simp)) (fun k hk => by have e2 : some g = some k := hk; injection e2 with e2; have := HZ1.out; omega)
          have HZB6 := Lib.hid (Blk.setOther hzb5 (a := ⟨v2.heap.size, 0, none⟩) (by have := HZ1.out; have := HZ2.out; show v2.heap.size ≠ _; omega) (.slice Av (m + 1 + 1) kv))
          have HSB6 := Lib.hid (Blk.setOther hsb5 (a := ⟨v2.heap.size, 0, none⟩) (by have := HZ1.out; have := HZ2.out; show v2.heap.size ≠ _; omega) (.slice Av (m + 1 + 1) kv))
          have HBW6 := Lib.hid (Below.setCell hbw5 (p := ⟨v2.heap.size, 0, none⟩) (by have := HZ1.out; have := HZ2.out; show _ ≤ v2.heap.size; omega) (.slice Av (m + 1 + 1) kv))
          have hlen2 : (segs ++ [(⟨next, []⟩ : SegD)]).length = m + 1 + 1 := by rw [List.length_append, HM.out]; rfl
          have HTR := Lib.hid (trimmed_any v2.heap.size (segs ++ [⟨next, []⟩]) next mark Av kv (v5.setCell ⟨v2.heap.size, 0, none⟩ (.slice Av (m + 1 + 1) kv)) v1.heap.size (by rw [setCell_size]; have := HZ2.out; have := HZ4.out; have := HSZ5.out; omega) (by rw [hlen2]; have h1 := HM.out; have h2 := HLG.out.2.1; simp only [] at h2; omega) (fun s hs => by
            rcases List.mem_append.1 hs with hs | hs
            · exact HF.out s hs
            · have : s = (⟨next, []⟩ : SegD) := by simpa using hs
              subst this
              exact ⟨by show 1 ≤ next; omega, hnx⟩) (by rw [hlen2]; exact hown6) (by rw [hlen2]; exact fun e => hbv _ e rfl) (by rw [hlen2]; exact blk_put0 HX5.out 0 (.slice Av (m + 1 + 1) kv)))
          have HSZ6 := Lib.hid (show v2.heap.size + 1 ≤ (World.heap (v5.setCell ⟨v2.heap.size, 0, none⟩ (.slice Av (m + 1 + 1) kv))).size by rw [setCell_size]; have := HZ4.out; have := HSZ5.out; omega)
          clear hcells hown6 hzb5 hsb5 hbw5 hlen2 hbv HO4 HX4 ZB4 SB4 BW4 HX5 HO5 HG5 hq5 hfz5 hx0 hx1 hfx1 hfx0 hp1 hcb1 hfz1
          refine HTR.out.mono ?_; rintro e v7 ⟨rfl, A2, k2, hXb, hrow2, _, hgr⟩
          rw [← HTS.out] at hXb hrow2
          have HX7 := Lib.hid hXb
          have HO7 := Lib.hid hrow2
          have ZB7 := Lib.hid (HZB6.out.grown hgr (fun e => by have := HZ1.out; have := HZ2.out; omega))
          have SB7 := Lib.hid (HSB6.out.grown hgr (fun e => by have := HZ1.out; have := HZ2.out; omega))
          have BW7 := Lib.hid (Below.grown HBW6.out hgr HBW6.out.size (fun k hk => by injection hk with hk; have := HZ1.out; have := HZ2.out; omega))
          have HZ7 := Lib.hid (Nat.le_trans HSZ6.out hgr.size)
          have hne2 : (Value.slice A2 TS.length k2).ownBlock ≠ some v2.heap.size := by rw [HTS.out]; assumption
          clear hXb hrow2 hgr HZB6 HSB6 HBW6 HTR
          have hq0 : v7.cell? ⟨v2.heap.size, 0, none⟩ = some (.slice A2 TS.length k2) := blk_cell0 (L := [.slice A2 TS.length k2, .int .i64 next, .int .i64 mark]) HX7.out 0 rfl
          have hq1 : v7.cell? ⟨v2.heap.size, 1, none⟩ = some (.int .i64 next) := blk_cell0 (L := [.slice A2 TS.length k2, .int .i64 next, .int .i64 mark]) HX7.out 1 rfl
          have hfq1 : v7.frozen? ⟨v2.heap.size, 1, none⟩ = false := HX7.out.frozen 1
          have hp1 : v7.cell? ⟨w.heap.size, 1, none⟩ = some (.int .i64 next) := blk_cell0 (L := [.slice A0 (m + 1) k0, .int .i64 next, .int .i64 mark]) SB7.out 1 rfl
          have HX8 := Lib.hid (blk_put0 HX7.out 1 (.int .i64 (next + 1)))
          have ZB8 := Lib.hid (Blk.setOther ZB7.out (a := ⟨v2.heap.size, 1, none⟩) (by have := HZ1.out; have := HZ2.out; show v2.heap.size ≠ _; omega) (.int .i64 (next + 1)))
          have SB8 := Lib.hid (Blk.setOther SB7.out (a := ⟨v2.heap.size, 1, none⟩) (by have := HZ1.out; have := HZ2.out; show v2.heap.size ≠ _; omega) (.int .i64 (next + 1)))
          have BW8 := Lib.hid (Below.setCell BW7.out (p := ⟨v2.heap.size, 1, none⟩) (by have := HZ1.out; have := HZ2.out; show _ ≤ v2.heap.size; omega) (.int .i64 (next + 1)))
          have HO8 := Lib.hid (ownsRow_keep (base' := v1.heap.size) HO7.out (w' := v7.setCell ⟨v2.heap.size, 1, none⟩ (.int .i64 (next + 1))) (fun k hk => ⟨(HO7.out.lt k hk).1, Below.heap_setCell _ _ _ _ (fun e2 => hne2 (hk.trans (congrArg some e2)))⟩))
          have HZ8 := Lib.hid (show v2.heap.size + 1 ≤ (World.heap (v7.setCell ⟨v2.heap.size, 1, none⟩ (.int .i64 (next + 1)))).size by rw [setCell_size]; exact HZ7.out)
          clear HX7 ZB7 SB7 BW7 HO7 HZ7 hne2
          go_wp2_with (first | ((with_reducible show wpList _ _ _ ({ dst := _, op := Op.load 46 _, type := _, pos := _, after := _, guard := _ } :: _) _ _); refine wpList_load_row _ ⟨w.heap.size, 0, none⟩ rfl [.slice A0 (m + 1) k0, .int .i64 next, .int .i64 mark] agg_Log rfl (blk_cells SB8.out) ?_) | fail)
          refine (copyLog_any ⟨segs, next, mark⟩ _ _ HW.out (HA2.out.below BW8.out)).mono ?_
          rintro e v9 ⟨cs', rfl, hM, hb⟩
          obtain ⟨A9, k9, rfl, hrow9⟩ := log_own hM
          simp only [] at hrow9 ⊢
          have hRz : R = (⟨segs, next, mark⟩, false) := by
            rw [HR.out, if_pos]
            first | (simp; done) | exact .inr (.inr (by omega)) | exact .inr (.inl (by omega))
          have HRZ := Lib.hid hRz; clear hRz
          have HO9 := Lib.hid hrow9
          have ZB9 := Lib.hid (ZB8.out.below hb)
          have BW9 := Lib.hid (show Below w.heap.size w v9 from BW8.out.trans (hb.mono BW8.out.size))
          have HZ9 := Lib.hid (show w.heap.size + 1 + 1 ≤ (World.heap (v7.setCell ⟨v2.heap.size, 1, none⟩ (.int .i64 (next + 1)))).size from by have := HZ8.out; have := HZ1.out; have := HZ2.out; omega)
          clear hM hb hrow9
          go_wp2_with (first | ((with_reducible show wpList _ _ _ ({ dst := _, op := Op.store 46 _ _, type := _, pos := _, after := _, guard := _ } :: _) _ _); refine wpList_store_row _ (w.heap.size + 1) 46 0 [.slice A9 segs.length k9, .int .i64 next, .int .i64 mark] [] [.slice none 0 0, .int .i64 0, .int .i64 0] [] _ rfl rfl agg_Log ZB9.out rfl rfl rfl (by simp [Value.oneCell']) ?_; intro v10 hzb hzg) | fail)
          rw [HRZ.out]
          have hO10 := ownsRow_keep (base' := w.heap.size) HO9.out (w' := v10) (fun k hk => ⟨by have h1 := (HO9.out.lt k hk).1; have h2 := HZ9.out; omega, hzg.block k (HO9.out.lt k hk).2 (fun e => by injection e with e; have h1 := (HO9.out.lt k hk).1; have h2 := HZ9.out; omega)⟩)
          exact bodyPost_cell2 rfl ⟨w.heap.size + 1, 0, none⟩ rfl [.slice A9 segs.length k9, .int .i64 next, .int .i64 mark] _ rfl agg_Log rfl (blk_cells hzb) rfl ⟨_, rfl, own_log hO10, Below.grown BW9.out hzg BW9.out.size (fun k hk => by injection hk with hk; omega)⟩
    · have hFE : F.isEmpty = false := by cases F with | nil => exact absurd rfl hF0 | cons _ _ => rfl
      have HF0 := Lib.hid hF0; clear hF0
      by_cases hl0 : lt = []
      · subst hl0
        have haS : addS ⟨segs, next, mark⟩ F = setLast segs ⟨lf, F⟩ := by
          unfold addS
          simp only [HLS.out]
          split
          · first | rfl | simp
          · rename_i h
            exact (h (by first | exact .inl trivial | exact .inl rfl | exact .inr h60)).elim
        have hal : (addS ⟨segs, next, mark⟩ F).length = m + 1 := by rw [haS, setLast_length, HM.out]
        rw [hal, haS] at HR
        have hsts := segCells_set HM.out (F)
        rw [HLS.out] at hsts
        simp only [] at hsts
        have hst := HO4.out.stored (m * 2 + 1) (.string (bs (F)))
        rw [hsts] at hst
        have HO5 := Lib.hid hst.1
        have HG5 := Lib.hid hst.2
        have HX5 := Lib.hid (HX4.out.grown HG5.out (fun e => hgx e.symm))
        have ZB5 := Lib.hid (ZB4.out.grown HG5.out (fun e => by have := HZ1.out; omega))
        have SB5 := Lib.hid (SB4.out.grown HG5.out (fun e => by have := HZ1.out; omega))
        have BW5 := Lib.hid (Below.grown BW4.out HG5.out BW4.out.size (fun k hk => by injection hk with hk; have := HZ1.out; omega))
        have HLG5 := Lib.hid ((setLast_length segs ⟨lf, F⟩).trans HM.out)
        clear hsts hst haS hal
        have HX8 := Lib.hid (blk_put0 HX5.out 1 (.int .i64 (next + 1)))
        have ZB8 := Lib.hid (Blk.setOther ZB5.out (a := ⟨v2.heap.size, 1, none⟩) (by have := HZ1.out; have := HZ2.out; show v2.heap.size ≠ _; omega) (.int .i64 (next + 1)))
        have SB8 := Lib.hid (Blk.setOther SB5.out (a := ⟨v2.heap.size, 1, none⟩) (by have := HZ1.out; have := HZ2.out; show v2.heap.size ≠ _; omega) (.int .i64 (next + 1)))
        have BW8 := Lib.hid (Below.setCell BW5.out (p := ⟨v2.heap.size, 1, none⟩) (by have := HZ1.out; have := HZ2.out; show _ ≤ v2.heap.size; omega) (.int .i64 (next + 1)))
        have HO8 := Lib.hid (ownsRow_keep (base' := v1.heap.size) HO5.out (w' := (v4.setCell ⟨g, m * 2 + 1, none⟩ (.string (bs (F)))).setCell ⟨v2.heap.size, 1, none⟩ (.int .i64 (next + 1))) (fun k hk => ⟨(HO5.out.lt k hk).1, by
          have e : some g = some k := hk
          injection e with e
          exact Below.heap_setCell _ _ _ _ (fun e2 => by have e3 : k = v2.heap.size := e2; omega)⟩))
        have HZ8 := Lib.hid (show v2.heap.size + 1 ≤ (World.heap ((v4.setCell ⟨g, m * 2 + 1, none⟩ (.string (bs (F)))).setCell ⟨v2.heap.size, 1, none⟩ (.int .i64 (next + 1)))).size by rw [setCell_size, setCell_size]; exact HZ4.out)
        clear HO4 HX4 ZB4 SB4 BW4 HG5 HO5 HX5 ZB5 SB5 BW5
        have hm6 : ¬ (6 : Int) < (m : Int) + 1 := by have := HM.out; have := HLG.out.2.1; simp only [] at this; omega
        by_cases h1000 : (1000 : Int) < next + 1
        · skip
          go_wp2_with (first | ((with_reducible show wpList _ _ _ ({ dst := _, op := Op.load 46 _, type := _, pos := _, after := _, guard := _ } :: _) _ _); refine wpList_load_row _ ⟨w.heap.size, 0, none⟩ rfl [.slice A0 (m + 1) k0, .int .i64 next, .int .i64 mark] agg_Log rfl (blk_cells SB8.out) ?_) | fail)
          refine (copyLog_any ⟨segs, next, mark⟩ _ _ HW.out (HA2.out.below BW8.out)).mono ?_
          rintro e v9 ⟨cs', rfl, hM, hb⟩
          obtain ⟨A9, k9, rfl, hrow9⟩ := log_own hM
          simp only [] at hrow9 ⊢
          have hRz : R = (⟨segs, next, mark⟩, false) := by
            rw [HR.out, if_pos]
            first | (simp; done) | exact .inr (.inr (by omega)) | exact .inr (.inl (by omega))
          have HRZ := Lib.hid hRz; clear hRz
          have HO9 := Lib.hid hrow9
          have ZB9 := Lib.hid (ZB8.out.below hb)
          have BW9 := Lib.hid (show Below w.heap.size w v9 from BW8.out.trans (hb.mono BW8.out.size))
          have HZ9 := Lib.hid (show w.heap.size + 1 + 1 ≤ (World.heap ((v4.setCell ⟨g, m * 2 + 1, none⟩ (.string (bs (F)))).setCell ⟨v2.heap.size, 1, none⟩ (.int .i64 (next + 1)))).size from by have := HZ8.out; have := HZ1.out; have := HZ2.out; omega)
          clear hM hb hrow9
          go_wp2_with (first | ((with_reducible show wpList _ _ _ ({ dst := _, op := Op.store 46 _ _, type := _, pos := _, after := _, guard := _ } :: _) _ _); refine wpList_store_row _ (w.heap.size + 1) 46 0 [.slice A9 segs.length k9, .int .i64 next, .int .i64 mark] [] [.slice none 0 0, .int .i64 0, .int .i64 0] [] _ rfl rfl agg_Log ZB9.out rfl rfl rfl (by simp [Value.oneCell']) ?_; intro v10 hzb hzg) | fail)
          rw [HRZ.out]
          have hO10 := ownsRow_keep (base' := w.heap.size) HO9.out (w' := v10) (fun k hk => ⟨by have h1 := (HO9.out.lt k hk).1; have h2 := HZ9.out; omega, hzg.block k (HO9.out.lt k hk).2 (fun e => by injection e with e; have h1 := (HO9.out.lt k hk).1; have h2 := HZ9.out; omega)⟩)
          exact bodyPost_cell2 rfl ⟨w.heap.size + 1, 0, none⟩ rfl [.slice A9 segs.length k9, .int .i64 next, .int .i64 mark] _ rfl agg_Log rfl (blk_cells hzb) rfl ⟨_, rfl, own_log hO10, Below.grown BW9.out hzg BW9.out.size (fun k hk => by injection hk with hk; omega)⟩
        · skip
          have hRz : R = (⟨setLast segs ⟨lf, F⟩, next + 1, mark⟩, true) := by
            rw [HR.out, if_neg]
            rintro (h | h | h)
            · exact HF0.out h
            · omega
            · omega
          have HRZ := Lib.hid hRz; clear hRz
          go_wp2_with (first | ((with_reducible show wpList _ _ _ ({ dst := _, op := Op.load 46 _, type := _, pos := _, after := _, guard := _ } :: _) _ _); refine wpList_load_row _ ⟨v2.heap.size, 0, none⟩ rfl [.slice (some ⟨g, 0, none⟩) (m + 1) k1, .int .i64 (next + 1), .int .i64 mark] agg_Log rfl (blk_cells HX8.out) ?_) | ((with_reducible show wpList _ _ _ ({ dst := _, op := Op.store 46 _ _, type := _, pos := _, after := _, guard := _ } :: _) _ _); refine wpList_store_row _ (w.heap.size + 1) 46 0 [.slice (some ⟨g, 0, none⟩) (m + 1) k1, .int .i64 (next + 1), .int .i64 mark] [] [.slice none 0 0, .int .i64 0, .int .i64 0] [] _ rfl rfl agg_Log ZB8.out rfl rfl rfl (by simp [Value.oneCell']) ?_; intro v9 hzb hzg) | fail)
          rw [HRZ.out]
          have hO9 := ownsRow_keep (base' := w.heap.size) HO8.out (w' := v9) (fun k hk => ⟨by have h1 := (HO8.out.lt k hk).1; have h2 := HZ1.out; omega, hzg.block k (HO8.out.lt k hk).2 (fun e => by injection e with e; have h1 := (HO8.out.lt k hk).1; have h2 := HZ1.out; omega)⟩)
          rw [← HLG5.out] at hO9
          exact bodyPost_cell2 rfl ⟨w.heap.size + 1, 0, none⟩ rfl [.slice (some ⟨g, 0, none⟩) (setLast segs ⟨lf, F⟩).length k1, .int .i64 (next + 1), .int .i64 mark] _ rfl agg_Log rfl (by rw [HLG5.out]; exact blk_cells hzb) rfl ⟨_, rfl, own_log hO9, Below.grown BW8.out hzg BW8.out.size (fun k hk => by injection hk with hk; omega)⟩
      · have hE1 : lt.isEmpty = false := by cases lt with | nil => exact absurd rfl hl0 | cons _ _ => rfl
        by_cases h60 : lt.length + (F : List UInt8).length ≤ 60
        · have h60' : (lt.length : Int) + (F.length : Int) ≤ 60 := by first | omega | (simp at h60; omega)
          have haS : addS ⟨segs, next, mark⟩ F = setLast segs ⟨lf, lt ++ F⟩ := by
            unfold addS
            simp only [HLS.out]
            split
            · first | rfl | simp
            · rename_i h
              exact (h (by first | exact .inl trivial | exact .inl rfl | exact .inr h60)).elim
          have hal : (addS ⟨segs, next, mark⟩ F).length = m + 1 := by rw [haS, setLast_length, HM.out]
          rw [hal, haS] at HR
          have hsts := segCells_set HM.out (lt ++ F)
          rw [HLS.out] at hsts
          simp only [] at hsts
          have hst := HO4.out.stored (m * 2 + 1) (.string (bs (lt ++ F)))
          rw [hsts] at hst
          have HO5 := Lib.hid hst.1
          have HG5 := Lib.hid hst.2
          have HX5 := Lib.hid (HX4.out.grown HG5.out (fun e => hgx e.symm))
          have ZB5 := Lib.hid (ZB4.out.grown HG5.out (fun e => by have := HZ1.out; omega))
          have SB5 := Lib.hid (SB4.out.grown HG5.out (fun e => by have := HZ1.out; omega))
          have BW5 := Lib.hid (Below.grown BW4.out HG5.out BW4.out.size (fun k hk => by injection hk with hk; have := HZ1.out; omega))
          have HLG5 := Lib.hid ((setLast_length segs ⟨lf, lt ++ F⟩).trans HM.out)
          clear hsts hst haS hal
          have HX8 := Lib.hid (blk_put0 HX5.out 1 (.int .i64 (next + 1)))
          have ZB8 := Lib.hid (Blk.setOther ZB5.out (a := ⟨v2.heap.size, 1, none⟩) (by have := HZ1.out; have := HZ2.out; show v2.heap.size ≠ _; omega) (.int .i64 (next + 1)))
          have SB8 := Lib.hid (Blk.setOther SB5.out (a := ⟨v2.heap.size, 1, none⟩) (by have := HZ1.out; have := HZ2.out; show v2.heap.size ≠ _; omega) (.int .i64 (next + 1)))
          have BW8 := Lib.hid (Below.setCell BW5.out (p := ⟨v2.heap.size, 1, none⟩) (by have := HZ1.out; have := HZ2.out; show _ ≤ v2.heap.size; omega) (.int .i64 (next + 1)))
          have HO8 := Lib.hid (ownsRow_keep (base' := v1.heap.size) HO5.out (w' := (v4.setCell ⟨g, m * 2 + 1, none⟩ (.string (bs (lt ++ F)))).setCell ⟨v2.heap.size, 1, none⟩ (.int .i64 (next + 1))) (fun k hk => ⟨(HO5.out.lt k hk).1, by
            have e : some g = some k := hk
            injection e with e
            exact Below.heap_setCell _ _ _ _ (fun e2 => by have e3 : k = v2.heap.size := e2; omega)⟩))
          have HZ8 := Lib.hid (show v2.heap.size + 1 ≤ (World.heap ((v4.setCell ⟨g, m * 2 + 1, none⟩ (.string (bs (lt ++ F)))).setCell ⟨v2.heap.size, 1, none⟩ (.int .i64 (next + 1)))).size by rw [setCell_size, setCell_size]; exact HZ4.out)
          clear HO4 HX4 ZB4 SB4 BW4 HG5 HO5 HX5 ZB5 SB5 BW5
          have hm6 : ¬ (6 : Int) < (m : Int) + 1 := by have := HM.out; have := HLG.out.2.1; simp only [] at this; omega
          by_cases h1000 : (1000 : Int) < next + 1
          · skip
            go_wp2_with (first | ((with_reducible show wpList _ _ _ ({ dst := _, op := Op.load 46 _, type := _, pos := _, after := _, guard := _ } :: _) _ _); refine wpList_load_row _ ⟨w.heap.size, 0, none⟩ rfl [.slice A0 (m + 1) k0, .int .i64 next, .int .i64 mark] agg_Log rfl (blk_cells SB8.out) ?_) | fail)
            refine (copyLog_any ⟨segs, next, mark⟩ _ _ HW.out (HA2.out.below BW8.out)).mono ?_
            rintro e v9 ⟨cs', rfl, hM, hb⟩
            obtain ⟨A9, k9, rfl, hrow9⟩ := log_own hM
            simp only [] at hrow9 ⊢
            have hRz : R = (⟨segs, next, mark⟩, false) := by
              rw [HR.out, if_pos]
              first | (simp; done) | exact .inr (.inr (by omega)) | exact .inr (.inl (by omega))
            have HRZ := Lib.hid hRz; clear hRz
            have HO9 := Lib.hid hrow9
            have ZB9 := Lib.hid (ZB8.out.below hb)
            have BW9 := Lib.hid (show Below w.heap.size w v9 from BW8.out.trans (hb.mono BW8.out.size))
            have HZ9 := Lib.hid (show w.heap.size + 1 + 1 ≤ (World.heap ((v4.setCell ⟨g, m * 2 + 1, none⟩ (.string (bs (lt ++ F)))).setCell ⟨v2.heap.size, 1, none⟩ (.int .i64 (next + 1)))).size from by have := HZ8.out; have := HZ1.out; have := HZ2.out; omega)
            clear hM hb hrow9
            go_wp2_with (first | ((with_reducible show wpList _ _ _ ({ dst := _, op := Op.store 46 _ _, type := _, pos := _, after := _, guard := _ } :: _) _ _); refine wpList_store_row _ (w.heap.size + 1) 46 0 [.slice A9 segs.length k9, .int .i64 next, .int .i64 mark] [] [.slice none 0 0, .int .i64 0, .int .i64 0] [] _ rfl rfl agg_Log ZB9.out rfl rfl rfl (by simp [Value.oneCell']) ?_; intro v10 hzb hzg) | fail)
            rw [HRZ.out]
            have hO10 := ownsRow_keep (base' := w.heap.size) HO9.out (w' := v10) (fun k hk => ⟨by have h1 := (HO9.out.lt k hk).1; have h2 := HZ9.out; omega, hzg.block k (HO9.out.lt k hk).2 (fun e => by injection e with e; have h1 := (HO9.out.lt k hk).1; have h2 := HZ9.out; omega)⟩)
            exact bodyPost_cell2 rfl ⟨w.heap.size + 1, 0, none⟩ rfl [.slice A9 segs.length k9, .int .i64 next, .int .i64 mark] _ rfl agg_Log rfl (blk_cells hzb) rfl ⟨_, rfl, own_log hO10, Below.grown BW9.out hzg BW9.out.size (fun k hk => by injection hk with hk; omega)⟩
          · skip
            have hRz : R = (⟨setLast segs ⟨lf, lt ++ F⟩, next + 1, mark⟩, true) := by
              rw [HR.out, if_neg]
              rintro (h | h | h)
              · exact HF0.out h
              · omega
              · omega
            have HRZ := Lib.hid hRz; clear hRz
            go_wp2_with (first | ((with_reducible show wpList _ _ _ ({ dst := _, op := Op.load 46 _, type := _, pos := _, after := _, guard := _ } :: _) _ _); refine wpList_load_row _ ⟨v2.heap.size, 0, none⟩ rfl [.slice (some ⟨g, 0, none⟩) (m + 1) k1, .int .i64 (next + 1), .int .i64 mark] agg_Log rfl (blk_cells HX8.out) ?_) | ((with_reducible show wpList _ _ _ ({ dst := _, op := Op.store 46 _ _, type := _, pos := _, after := _, guard := _ } :: _) _ _); refine wpList_store_row _ (w.heap.size + 1) 46 0 [.slice (some ⟨g, 0, none⟩) (m + 1) k1, .int .i64 (next + 1), .int .i64 mark] [] [.slice none 0 0, .int .i64 0, .int .i64 0] [] _ rfl rfl agg_Log ZB8.out rfl rfl rfl (by simp [Value.oneCell']) ?_; intro v9 hzb hzg) | fail)
            rw [HRZ.out]
            have hO9 := ownsRow_keep (base' := w.heap.size) HO8.out (w' := v9) (fun k hk => ⟨by have h1 := (HO8.out.lt k hk).1; have h2 := HZ1.out; omega, hzg.block k (HO8.out.lt k hk).2 (fun e => by injection e with e; have h1 := (HO8.out.lt k hk).1; have h2 := HZ1.out; omega)⟩)
            rw [← HLG5.out] at hO9
            exact bodyPost_cell2 rfl ⟨w.heap.size + 1, 0, none⟩ rfl [.slice (some ⟨g, 0, none⟩) (setLast segs ⟨lf, lt ++ F⟩).length k1, .int .i64 (next + 1), .int .i64 mark] _ rfl agg_Log rfl (by rw [HLG5.out]; exact blk_cells hzb) rfl ⟨_, rfl, own_log hO9, Below.grown BW8.out hzg BW8.out.size (fun k hk => by injection hk with hk; omega)⟩
        · have h60' : ¬ (lt.length : Int) + (F.length : Int) ≤ 60 := by first | omega | (simp at h60; omega)
          have haS : addS ⟨segs, next, mark⟩ F = trimS mark (segs ++ [⟨next, F⟩]) := by
            unfold addS
            simp only [HLS.out]
            rw [if_neg (by rintro (h | h); exact hl0 h; first | omega | (simp at h; omega))]
          rw [haS] at HR
          obtain ⟨TS, hTS⟩ : ∃ T, T = trimS mark (segs ++ [⟨next, F⟩]) := ⟨_, rfl⟩
          rw [← hTS] at HR
          have htl := (trimS_le mark (segs ++ [⟨next, F⟩])).1
          rw [← hTS] at htl
          have htl2 : TS.length ≤ 1048580 := by have := HM.out; simp at htl; omega
          have HTS := Lib.hid hTS; clear hTS htl haS
          have hfx0 : World.frozen? v4 ⟨v2.heap.size, 0, none⟩ = false := HX4.out.frozen 0
          go_wp2_with (first
            | (at_builtin; go_must (refine wpList_app E_Seg _ rfl _ _ rfl v1.heap.size _ (m + 1) _ rfl (HO4.out.alloc _) _ _ _ _ rfl (Reads.new rfl) (by simp [Value.oneCell']) (by omega) (by have := HZ2.out; have := HZ4.out; simp; omega) ?_; intro vv v5 hown hg5 hat; obtain ⟨Av, kv, rfl, _⟩ := SlR.of_own hown; have hcb := Blk.keep (HX4.out.alloc (.cells #[.int .i64 next, .string (bs F)] 90)) (hg5.block _ (HX4.out.alloc _).lt (fun e => by have e2 : some v2.heap.size = some g := e; injection e2 with e2; omega)); have hq5 : v5.cell? ⟨v2.heap.size, 0, none⟩ = some (.slice (some ⟨g, 0, none⟩) (m + 1) k1) := blk_cell0 (L := [.slice (some ⟨g, 0, none⟩) (m + 1) k1, .int .i64 next, .int .i64 mark]) hcb 0 rfl; have hfz5 : v5.frozen? ⟨v2.heap.size, 0, none⟩ = false := hcb.frozen 0; have HX5 := Lib.hid hcb; have HO5 := Lib.hid hown; have HG5 := Lib.hid hg5; have HAT := Lib.hid hat; clear hcb hown hg5 hat))
            | fail)
          have hbv : ∀ k, (Value.slice Av (m + 1 + 1) kv).ownBlock = some k → k ≠ v2.heap.size := fun k hk e => by
            rcases HAT.out with h | h
            · have e1 : some g = some k := h.symm.trans hk
              injection e1 with e1; omega
            · have e1 := hk.symm.trans h
              injection e1 with e1
              have := HZ4.out
              simp at e1
              omega
          have hcells : segCells segs ++ #[Value.int .i64 next, Value.string (bs F)].toList = segCells (segs ++ [⟨next, F⟩]) := by rw [segCells_snoc]
          have HSZ5 := Lib.hid (show v4.heap.size + 1 ≤ v5.heap.size from Nat.le_trans (by simp) HG5.out.size)
          have hown6 : (v5.setCell ⟨v2.heap.size, 0, none⟩ (.slice Av (m + 1 + 1) kv)).ownsRow v1.heap.size 90 2 (.slice Av (m + 1 + 1) kv) (m + 1 + 1) (segCells (segs ++ [⟨next, F⟩])) := by
            rw [← hcells]
            exact ownsRow_keep HO5.out (fun k hk => ⟨(HO5.out.lt k hk).1, Below.heap_setCell _ _ _ _ (hbv k hk)⟩)
          have hzb5 := Blk.keep (ZB4.out.alloc (.cells #[.int .i64 next, .string (bs F)] 90)) (HG5.out.block _ (ZB4.out.alloc _).lt (fun e => by have e2 : some (w.heap.size + 1) = some g := e; injection e2 with e2; have := HZ1.out; omega))
          have hsb5 := Blk.keep (SB4.out.alloc (.cells #[.int .i64 next, .string (bs F)] 90)) (HG5.out.block _ (SB4.out.alloc _).lt (fun e => by have e2 : some w.heap.size = some g := e; injection e2 with e2; have := HZ1.out; omega))
          have hbw5 : Below w.heap.size w v5 := Below.grown (BW4.out.alloc BW4.out.size _) HG5.out (Nat.le_trans BW4.out.size (by simp)) (fun k hk => by have e2 : some g = some k := hk; injection e2 with e2; have := HZ1.out; omega)
          have HZB6 := Lib.hid (Blk.setOther hzb5 (a := ⟨v2.heap.size, 0, none⟩) (by have := HZ1.out; have := HZ2.out; show v2.heap.size ≠ _; omega) (.slice Av (m + 1 + 1) kv))
          have HSB6 := Lib.hid (Blk.setOther hsb5 (a := ⟨v2.heap.size, 0, none⟩) (by have := HZ1.out; have := HZ2.out; show v2.heap.size ≠ _; omega) (.slice Av (m + 1 + 1) kv))
          have HBW6 := Lib.hid (Below.setCell hbw5 (p := ⟨v2.heap.size, 0, none⟩) (by have := HZ1.out; have := HZ2.out; show _ ≤ v2.heap.size; omega) (.slice Av (m + 1 + 1) kv))
          have hlen2 : (segs ++ [(⟨next, F⟩ : SegD)]).length = m + 1 + 1 := by rw [List.length_append, HM.out]; rfl
          have HTR := Lib.hid (trimmed_any v2.heap.size (segs ++ [⟨next, F⟩]) next mark Av kv (v5.setCell ⟨v2.heap.size, 0, none⟩ (.slice Av (m + 1 + 1) kv)) v1.heap.size (by rw [setCell_size]; have := HZ2.out; have := HZ4.out; have := HSZ5.out; omega) (by rw [hlen2]; have h1 := HM.out; have h2 := HLG.out.2.1; simp only [] at h2; omega) (fun s hs => by
            rcases List.mem_append.1 hs with hs | hs
            · exact HF.out s hs
            · have : s = (⟨next, F⟩ : SegD) := by simpa using hs
              subst this
              exact ⟨by show 1 ≤ next; omega, hnx⟩) (by rw [hlen2]; exact hown6) (by rw [hlen2]; exact fun e => hbv _ e rfl) (by rw [hlen2]; exact blk_put0 HX5.out 0 (.slice Av (m + 1 + 1) kv)))
          have HSZ6 := Lib.hid (show v2.heap.size + 1 ≤ (World.heap (v5.setCell ⟨v2.heap.size, 0, none⟩ (.slice Av (m + 1 + 1) kv))).size by rw [setCell_size]; have := HZ4.out; have := HSZ5.out; omega)
          clear hcells hown6 hzb5 hsb5 hbw5 hlen2 hbv HO4 HX4 ZB4 SB4 BW4 HX5 HO5 HG5 hq5 hfz5 hx0 hx1 hfx1 hfx0 hp1 hcb1 hfz1
          refine HTR.out.mono ?_; rintro e v7 ⟨rfl, A2, k2, hXb, hrow2, _, hgr⟩
          rw [← HTS.out] at hXb hrow2
          have HX7 := Lib.hid hXb
          have HO7 := Lib.hid hrow2
          have ZB7 := Lib.hid (HZB6.out.grown hgr (fun e => by have := HZ1.out; have := HZ2.out; omega))
          have SB7 := Lib.hid (HSB6.out.grown hgr (fun e => by have := HZ1.out; have := HZ2.out; omega))
          have BW7 := Lib.hid (Below.grown HBW6.out hgr HBW6.out.size (fun k hk => by injection hk with hk; have := HZ1.out; have := HZ2.out; omega))
          have HZ7 := Lib.hid (Nat.le_trans HSZ6.out hgr.size)
          have hne2 : (Value.slice A2 TS.length k2).ownBlock ≠ some v2.heap.size := by rw [HTS.out]; assumption
          clear hXb hrow2 hgr HZB6 HSB6 HBW6 HTR
          have hq0 : v7.cell? ⟨v2.heap.size, 0, none⟩ = some (.slice A2 TS.length k2) := blk_cell0 (L := [.slice A2 TS.length k2, .int .i64 next, .int .i64 mark]) HX7.out 0 rfl
          have hq1 : v7.cell? ⟨v2.heap.size, 1, none⟩ = some (.int .i64 next) := blk_cell0 (L := [.slice A2 TS.length k2, .int .i64 next, .int .i64 mark]) HX7.out 1 rfl
          have hfq1 : v7.frozen? ⟨v2.heap.size, 1, none⟩ = false := HX7.out.frozen 1
          have hp1 : v7.cell? ⟨w.heap.size, 1, none⟩ = some (.int .i64 next) := blk_cell0 (L := [.slice A0 (m + 1) k0, .int .i64 next, .int .i64 mark]) SB7.out 1 rfl
          have HX8 := Lib.hid (blk_put0 HX7.out 1 (.int .i64 (next + 1)))
          have ZB8 := Lib.hid (Blk.setOther ZB7.out (a := ⟨v2.heap.size, 1, none⟩) (by have := HZ1.out; have := HZ2.out; show v2.heap.size ≠ _; omega) (.int .i64 (next + 1)))
          have SB8 := Lib.hid (Blk.setOther SB7.out (a := ⟨v2.heap.size, 1, none⟩) (by have := HZ1.out; have := HZ2.out; show v2.heap.size ≠ _; omega) (.int .i64 (next + 1)))
          have BW8 := Lib.hid (Below.setCell BW7.out (p := ⟨v2.heap.size, 1, none⟩) (by have := HZ1.out; have := HZ2.out; show _ ≤ v2.heap.size; omega) (.int .i64 (next + 1)))
          have HO8 := Lib.hid (ownsRow_keep (base' := v1.heap.size) HO7.out (w' := v7.setCell ⟨v2.heap.size, 1, none⟩ (.int .i64 (next + 1))) (fun k hk => ⟨(HO7.out.lt k hk).1, Below.heap_setCell _ _ _ _ (fun e2 => hne2 (hk.trans (congrArg some e2)))⟩))
          have HZ8 := Lib.hid (show v2.heap.size + 1 ≤ (World.heap (v7.setCell ⟨v2.heap.size, 1, none⟩ (.int .i64 (next + 1)))).size by rw [setCell_size]; exact HZ7.out)
          clear HX7 ZB7 SB7 BW7 HO7 HZ7 hne2
          by_cases h6 : (6 : Int) < (TS.length : Int)
          · skip
            go_wp2_with (first | ((with_reducible show wpList _ _ _ ({ dst := _, op := Op.load 46 _, type := _, pos := _, after := _, guard := _ } :: _) _ _); refine wpList_load_row _ ⟨w.heap.size, 0, none⟩ rfl [.slice A0 (m + 1) k0, .int .i64 next, .int .i64 mark] agg_Log rfl (blk_cells SB8.out) ?_) | fail)
            refine (copyLog_any ⟨segs, next, mark⟩ _ _ HW.out (HA2.out.below BW8.out)).mono ?_
            rintro e v9 ⟨cs', rfl, hM, hb⟩
            obtain ⟨A9, k9, rfl, hrow9⟩ := log_own hM
            simp only [] at hrow9 ⊢
            have hRz : R = (⟨segs, next, mark⟩, false) := by
              rw [HR.out, if_pos]
              first | (simp; done) | exact .inr (.inr (by omega)) | exact .inr (.inl (by omega))
            have HRZ := Lib.hid hRz; clear hRz
            have HO9 := Lib.hid hrow9
            have ZB9 := Lib.hid (ZB8.out.below hb)
            have BW9 := Lib.hid (show Below w.heap.size w v9 from BW8.out.trans (hb.mono BW8.out.size))
            have HZ9 := Lib.hid (show w.heap.size + 1 + 1 ≤ (World.heap (v7.setCell ⟨v2.heap.size, 1, none⟩ (.int .i64 (next + 1)))).size from by have := HZ8.out; have := HZ1.out; have := HZ2.out; omega)
            clear hM hb hrow9
            go_wp2_with (first | ((with_reducible show wpList _ _ _ ({ dst := _, op := Op.store 46 _ _, type := _, pos := _, after := _, guard := _ } :: _) _ _); refine wpList_store_row _ (w.heap.size + 1) 46 0 [.slice A9 segs.length k9, .int .i64 next, .int .i64 mark] [] [.slice none 0 0, .int .i64 0, .int .i64 0] [] _ rfl rfl agg_Log ZB9.out rfl rfl rfl (by simp [Value.oneCell']) ?_; intro v10 hzb hzg) | fail)
            rw [HRZ.out]
            have hO10 := ownsRow_keep (base' := w.heap.size) HO9.out (w' := v10) (fun k hk => ⟨by have h1 := (HO9.out.lt k hk).1; have h2 := HZ9.out; omega, hzg.block k (HO9.out.lt k hk).2 (fun e => by injection e with e; have h1 := (HO9.out.lt k hk).1; have h2 := HZ9.out; omega)⟩)
            exact bodyPost_cell2 rfl ⟨w.heap.size + 1, 0, none⟩ rfl [.slice A9 segs.length k9, .int .i64 next, .int .i64 mark] _ rfl agg_Log rfl (blk_cells hzb) rfl ⟨_, rfl, own_log hO10, Below.grown BW9.out hzg BW9.out.size (fun k hk => by injection hk with hk; omega)⟩
          by_cases h1000 : (1000 : Int) < next + 1
          · skip
            go_wp2_with (first | ((with_reducible show wpList _ _ _ ({ dst := _, op := Op.load 46 _, type := _, pos := _, after := _, guard := _ } :: _) _ _); refine wpList_load_row _ ⟨w.heap.size, 0, none⟩ rfl [.slice A0 (m + 1) k0, .int .i64 next, .int .i64 mark] agg_Log rfl (blk_cells SB8.out) ?_) | fail)
            refine (copyLog_any ⟨segs, next, mark⟩ _ _ HW.out (HA2.out.below BW8.out)).mono ?_
            rintro e v9 ⟨cs', rfl, hM, hb⟩
            obtain ⟨A9, k9, rfl, hrow9⟩ := log_own hM
            simp only [] at hrow9 ⊢
            have hRz : R = (⟨segs, next, mark⟩, false) := by
              rw [HR.out, if_pos]
              first | (simp; done) | exact .inr (.inr (by omega)) | exact .inr (.inl (by omega))
            have HRZ := Lib.hid hRz; clear hRz
            have HO9 := Lib.hid hrow9
            have ZB9 := Lib.hid (ZB8.out.below hb)
            have BW9 := Lib.hid (show Below w.heap.size w v9 from BW8.out.trans (hb.mono BW8.out.size))
            have HZ9 := Lib.hid (show w.heap.size + 1 + 1 ≤ (World.heap (v7.setCell ⟨v2.heap.size, 1, none⟩ (.int .i64 (next + 1)))).size from by have := HZ8.out; have := HZ1.out; have := HZ2.out; omega)
            clear hM hb hrow9
            go_wp2_with (first | ((with_reducible show wpList _ _ _ ({ dst := _, op := Op.store 46 _ _, type := _, pos := _, after := _, guard := _ } :: _) _ _); refine wpList_store_row _ (w.heap.size + 1) 46 0 [.slice A9 segs.length k9, .int .i64 next, .int .i64 mark] [] [.slice none 0 0, .int .i64 0, .int .i64 0] [] _ rfl rfl agg_Log ZB9.out rfl rfl rfl (by simp [Value.oneCell']) ?_; intro v10 hzb hzg) | fail)
            rw [HRZ.out]
            have hO10 := ownsRow_keep (base' := w.heap.size) HO9.out (w' := v10) (fun k hk => ⟨by have h1 := (HO9.out.lt k hk).1; have h2 := HZ9.out; omega, hzg.block k (HO9.out.lt k hk).2 (fun e => by injection e with e; have h1 := (HO9.out.lt k hk).1; have h2 := HZ9.out; omega)⟩)
            exact bodyPost_cell2 rfl ⟨w.heap.size + 1, 0, none⟩ rfl [.slice A9 segs.length k9, .int .i64 next, .int .i64 mark] _ rfl agg_Log rfl (blk_cells hzb) rfl ⟨_, rfl, own_log hO10, Below.grown BW9.out hzg BW9.out.size (fun k hk => by injection hk with hk; omega)⟩
          · skip
            have hRz : R = (⟨TS, next + 1, mark⟩, true) := by
              rw [HR.out, if_neg]
              rintro (h | h | h)
              · exact HF0.out h
              · omega
              · omega
            have HRZ := Lib.hid hRz; clear hRz
            go_wp2_with (first | ((with_reducible show wpList _ _ _ ({ dst := _, op := Op.load 46 _, type := _, pos := _, after := _, guard := _ } :: _) _ _); refine wpList_load_row _ ⟨v2.heap.size, 0, none⟩ rfl [.slice A2 TS.length k2, .int .i64 (next + 1), .int .i64 mark] agg_Log rfl (blk_cells HX8.out) ?_) | ((with_reducible show wpList _ _ _ ({ dst := _, op := Op.store 46 _ _, type := _, pos := _, after := _, guard := _ } :: _) _ _); refine wpList_store_row _ (w.heap.size + 1) 46 0 [.slice A2 TS.length k2, .int .i64 (next + 1), .int .i64 mark] [] [.slice none 0 0, .int .i64 0, .int .i64 0] [] _ rfl rfl agg_Log ZB8.out rfl rfl rfl (by simp [Value.oneCell']) ?_; intro v9 hzb hzg) | fail)
            rw [HRZ.out]
            have hO9 := ownsRow_keep (base' := w.heap.size) HO8.out (w' := v9) (fun k hk => ⟨by have h1 := (HO8.out.lt k hk).1; have h2 := HZ1.out; omega, hzg.block k (HO8.out.lt k hk).2 (fun e => by injection e with e; have h1 := (HO8.out.lt k hk).1; have h2 := HZ1.out; omega)⟩)
            skip
            exact bodyPost_cell2 rfl ⟨w.heap.size + 1, 0, none⟩ rfl [.slice A2 TS.length k2, .int .i64 (next + 1), .int .i64 mark] _ rfl agg_Log rfl (by skip; exact blk_cells hzb) rfl ⟨_, rfl, own_log hO9, Below.grown BW8.out hzg BW8.out.size (fun k hk => by injection hk with hk; omega)⟩

set_option maxRecDepth 100000 in
set_option maxHeartbeats 40000000 in
theorem sLogAdd_any (x : LogD) (t : List UInt8) (cs : List Value) (w : World) (hwt : x.c.wt ≤ 1048576) (ht : t.length ≤ 1048576) (h : Rep anyB w x.c cs) :
    Calls Try.prog 53 #[.agg cs.toArray, .string (bs t)] w fun e w' => ∃ cs', e = .returned (.tuple #[.agg cs'.toArray, .bool (fLogAdd x t).2]) ∧ Mine w' w.heap.size (fLogAdd x t).1.c cs' ∧ Below w.heap.size w w' := by
  have hw0 : x.c.wt = x.segs.length + (cat SegD.c x.segs).wt + 0 := rfl
  have HA := Lib.hid h
  have HW := Lib.hid hwt
  obtain ⟨A0, k0, rfl, _⟩ := LogD.open h
  have HSF := Lib.hid (@seg_first x)
  have HGD := Lib.hid (@logOk_iff x)
  obtain ⟨R, hR⟩ : ∃ R, R = fLogAdd x t := ⟨_, rfl⟩
  rw [← hR]
  obtain ⟨segs, next, mark⟩ := x
  simp only [] at hw0 hR HA HW HSF HGD ⊢
  have HR := Lib.hid hR; clear hR
  have hn1 : segs.length ≤ 1048576 := by omega
  have hwl := fun j hj => seg_wt_le (xs := segs) j hj
  have HWL := Lib.hid hwl; clear hwl
  have hw1 : (cat SegD.c segs).wt ≤ 1048576 := by omega
  clear h hwt hw0
  go_enter Try.func53, Try.ntmps53
  go_wp2_with fail
  refine (sLogOk_any ⟨segs, next, mark⟩ _ _ HW.out (HA.out.below (by repeat' (first | with_reducible exact Below.refl _ _ | with_reducible exact BW.out | with_reducible refine Below.setCell ?_ ?_ _ | with_reducible refine Below.alloc ?_ ?_ _ | with_reducible refine Below.drew ?_ | (simp; done) | (simp; omega) | omega)))).mono ?_; rintro e v1 ⟨rfl, hb⟩
  have SB := Lib.hid (Blk.below (blk2_0 _ _ _ _) hb)
  have ZB := Lib.hid (Blk.below (blk2_1 _ _ _ _) hb)
  have BW := Lib.hid (show Below w.heap.size w v1 from Below.trans (by repeat' (first | with_reducible exact Below.refl _ _ | with_reducible exact BW.out | with_reducible refine Below.setCell ?_ ?_ _ | with_reducible refine Below.alloc ?_ ?_ _ | with_reducible refine Below.drew ?_ | (simp; done) | (simp; omega) | omega)) (hb.mono (by first | (simp; done) | (simp; omega) | omega)))
  have HZ1 := Lib.hid (show w.heap.size + 1 + 1 ≤ v1.heap.size from Nat.le_trans (by simp) hb.size); clear hb
  cases hx : logOkB ⟨segs, next, mark⟩
  case false =>
    have hRz : R = (⟨[], 0, 0⟩, false) := by rw [HR.out]; unfold fLogAdd; rw [hx]; first | rfl | (rw [if_neg (by simp)])
    subst hRz
    clear HR HSF HGD
    go_wp2_with (first | ((with_reducible show wpList _ _ _ ({ dst := _, op := Op.store 46 _ _, type := _, pos := _, after := _, guard := _ } :: _) _ _); refine wpList_store_row _ (w.heap.size + 1) 46 0 [.slice none 0 0, .int .i64 0, .int .i64 0] [] [.slice none 0 0, .int .i64 0, .int .i64 0] [] _ rfl rfl agg_Log ZB.out rfl rfl rfl (by simp [Value.oneCell']) ?_; intro v9 hzb hzg) | fail)
    exact bodyPost_cell2 rfl ⟨w.heap.size + 1, 0, none⟩ rfl [.slice none 0 0, .int .i64 0, .int .i64 0] _ rfl agg_Log rfl (blk_cells hzb) rfl ⟨_, rfl, own_log (xs := []) (own_none _ _ _ _), Below.grown BW.out hzg BW.out.size (fun k hk => by injection hk with hk; omega)⟩
  case true =>
    have hgd := HGD.out.1 hx
    have HLG := Lib.hid hgd
    obtain ⟨hl1, _, _, _, _, hnx, hm0, hmn⟩ := hgd
    simp only [] at hl1 hnx hm0 hmn
    have HF := Lib.hid (HSF.out hx)
    have HXX := Lib.hid hx
    clear HSF HGD hx
    obtain ⟨m, hm⟩ : ∃ m, segs.length = m + 1 := ⟨segs.length - 1, by omega⟩
    have HM := Lib.hid hm; clear hm
    clear hl1
    go_wp2_with (first | ((with_reducible show wpList _ _ _ ({ dst := _, op := Op.load 46 _, type := _, pos := _, after := _, guard := _ } :: _) _ _); refine wpList_load_row _ ⟨w.heap.size, 0, none⟩ rfl [.slice A0 segs.length k0, .int .i64 next, .int .i64 mark] agg_Log rfl (blk_cells SB.out) ?_) | fail)
    refine (l6Copy_any ⟨segs, next, mark⟩ _ _ HW.out (HA.out.below BW.out)).mono ?_; rintro e v2 ⟨cs', rfl, hM, hb⟩
    obtain ⟨A1, k1, rfl, hrow⟩ := log_own hM
    simp only [] at hrow ⊢
    rw [HM.out] at hrow ⊢
    obtain ⟨g, c', he, hg1, hg2⟩ := own_form hrow (by omega)
    injection he with he _ hec
    subst he hec
    have hcap : m + 1 ≤ k1 := own_cap hrow
    clear hM
    have HO := Lib.hid hrow; clear hrow
    have X := Lib.hid (SB.out.below hb); clear SB
    have SB := Lib.hid X.out; clear X
    have X := Lib.hid (ZB.out.below hb); clear ZB
    have ZB := Lib.hid X.out; clear X
    have HZ2 := Lib.hid hb.size
    have X := Lib.hid (show Below w.heap.size w v2 from BW.out.trans (hb.mono BW.out.size)); clear BW hb
    have BW := Lib.hid X.out; clear X
    obtain ⟨lf, lt, hls⟩ : ∃ lf lt, lastS segs = ⟨lf, lt⟩ := ⟨_, _, rfl⟩
    have hlb := HF.out _ (lastS_mem (xs := segs) (by have := HM.out; omega))
    rw [hls] at hlb
    simp only [] at hlb
    obtain ⟨hlf1, hlf2⟩ := hlb
    have hll := last_wt segs
    rw [hls] at hll
    simp only [] at hll
    have hlen : lt.length ≤ 1048576 := by omega
    have HLS := Lib.hid hls; clear hls hll
    have hmb : m ≤ 1048576 := by have := HM.out; omega
    rw [HM.out] at SB
    have ha2 := HA.out
    rw [HM.out] at ha2
    have HA2 := Lib.hid ha2; clear ha2
    have hfl := frameL_le t
    obtain ⟨F, hF⟩ : ∃ F, F = frameL t := ⟨_, rfl⟩
    rw [← hF] at hfl
    have HF1 := Lib.hid hF; clear hF
    have hcg := segCells_get HM.out
    rw [HLS.out] at hcg
    simp only [] at hcg
    have HCG := Lib.hid hcg; clear hcg
    have hRz : R = if F = [] ∨ 6 < (addS ⟨segs, next, mark⟩ F).length ∨ 1000 < next + 1 then (⟨segs, next, mark⟩, false) else (⟨addS ⟨segs, next, mark⟩ F, next + 1, mark⟩, true) := by
      rw [HR.out, HF1.out]; unfold fLogAdd; rw [HXX.out, if_pos rfl]
    clear HR
    have HR := Lib.hid hRz; clear hRz
    have HYW := Lib.hid (Nat.le_trans (addS_wt (l := ⟨segs, next, mark⟩) (f := F) (by show 1 ≤ segs.length; have := HM.out; omega) hfl) (Nat.add_le_add_right (good_wt HLG.out) 212))
    go_wp2_with (first | ((with_reducible show wpList _ _ _ ({ dst := _, op := Op.store 46 _ _, type := _, pos := _, after := _, guard := _ } :: _) _ _); refine wpList_store_row _ v2.heap.size 46 0 [.slice (some ⟨g, 0, none⟩) (m + 1) k1, .int .i64 next, .int .i64 mark] [] [.slice none 0 0, .int .i64 0, .int .i64 0] [] _ rfl rfl agg_Log (blk_new v2 _ _) rfl rfl rfl (by simp [Value.oneCell']) ?_; intro v3 hsb hsg; have HO3 := Lib.hid ((HO.out.alloc (.cells #[.slice none 0 0, .int .i64 0, .int .i64 0] 46)).kept hsg (.inr (fun e => by have := (HO.out.lt _ e).2; omega))); have HX := Lib.hid (show Blk v3 v2.heap.size 46 [.slice (some ⟨g, 0, none⟩) (m + 1) k1, .int .i64 next, .int .i64 mark].toArray by simpa using hsb); have SB3 := Lib.hid ((SB.out.alloc (.cells #[.slice none 0 0, .int .i64 0, .int .i64 0] 46)).grown hsg (fun e => by have := SB.out.lt; omega)); have ZB3 := Lib.hid ((ZB.out.alloc (.cells #[.slice none 0 0, .int .i64 0, .int .i64 0] 46)).grown hsg (fun e => by have := ZB.out.lt; omega)); have BW3 := Lib.hid (Below.grown (BW.out.alloc BW.out.size _) hsg (Nat.le_trans BW.out.size (by simp)) (fun k hk => by injection hk with hk; have := BW.out.size; omega)); have HZ3 := Lib.hid (show v2.heap.size + 1 ≤ v3.heap.size from Nat.le_trans (by simp) hsg.size); clear hsb hsg) | fail)
    refine (sFrame_any t _ (by omega)).mono ?_; rintro e v4 ⟨rfl, hb⟩
    rw [← HF1.out]
    have HO4 := Lib.hid (HO3.out.keptBelow hb)
    have HX4 := Lib.hid (HX.out.below hb)
    have ZB4 := Lib.hid (ZB3.out.below hb)
    have SB4 := Lib.hid (SB3.out.below hb)
    have BW4 := Lib.hid (show Below w.heap.size w v4 from BW3.out.trans (hb.mono BW3.out.size))
    have HZ4 := Lib.hid (Nat.le_trans HZ3.out hb.size)
    clear hb HO3 HX ZB3 BW3 HZ3 SB3
    have hp1 : World.cell? v4 ⟨w.heap.size, 1, none⟩ = some (.int .i64 next) := blk_cell0 (L := [.slice A0 (m + 1) k0, .int .i64 next, .int .i64 mark]) SB4.out 1 rfl
    have hx0 : World.cell? v4 ⟨v2.heap.size, 0, none⟩ = some (.slice (some ⟨g, 0, none⟩) (m + 1) k1) := blk_cell0 (L := [.slice (some ⟨g, 0, none⟩) (m + 1) k1, .int .i64 next, .int .i64 mark]) HX4.out 0 rfl
    have hx1 : World.cell? v4 ⟨v2.heap.size, 1, none⟩ = some (.int .i64 next) := blk_cell0 (L := [.slice (some ⟨g, 0, none⟩) (m + 1) k1, .int .i64 next, .int .i64 mark]) HX4.out 1 rfl
    have hfx0 : World.frozen? v4 ⟨v2.heap.size, 0, none⟩ = false := HX4.out.frozen 0
    have hfx1 : World.frozen? v4 ⟨v2.heap.size, 1, none⟩ = false := HX4.out.frozen 1
    have hcb1 := World.ownsRow.cells (g := g) HO4.out rfl (m * 2 + 1) _ HCG.out.2
    rw [add_plain, Nat.zero_add] at hcb1
    have hfz1 : v4.frozen? ⟨g, m * 2 + 1, none⟩ = false := HO4.out.frozenAt (m * 2 + 1)
    have hgx : ¬ g = v2.heap.size := by omega
    have hgx2 : ¬ v2.heap.size = g := by omega
    by_cases hF0 : F = []
    · subst hF0
      have hRz : R = (⟨segs, next, mark⟩, false) := by rw [HR.out, if_pos (Or.inl rfl)]
      have HRZ := Lib.hid hRz; clear hRz
      go_wp2_with (first | ((with_reducible show wpList _ _ _ ({ dst := _, op := Op.load 46 _, type := _, pos := _, after := _, guard := _ } :: _) _ _); refine wpList_load_row _ ⟨v2.heap.size, 0, none⟩ rfl [.slice (some ⟨g, 0, none⟩) (m + 1) k1, .int .i64 next, .int .i64 mark] agg_Log rfl (blk_cells HX4.out) ?_) | ((with_reducible show wpList _ _ _ ({ dst := _, op := Op.store 46 _ _, type := _, pos := _, after := _, guard := _ } :: _) _ _); refine wpList_store_row _ (w.heap.size + 1) 46 0 [.slice (some ⟨g, 0, none⟩) (m + 1) k1, .int .i64 next, .int .i64 mark] [] [.slice none 0 0, .int .i64 0, .int .i64 0] [] _ rfl rfl agg_Log ZB4.out rfl rfl rfl (by simp [Value.oneCell']) ?_; intro v9 hzb hzg) | fail)
      rw [HRZ.out]
      have hO9 := ownsRow_keep (base' := w.heap.size) HO4.out (w' := v9) (fun k hk => ⟨by have h1 := (HO4.out.lt k hk).1; have h2 := HZ1.out; omega, hzg.block k (HO4.out.lt k hk).2 (fun e => by injection e with e; have h1 := (HO4.out.lt k hk).1; have h2 := HZ1.out; omega)⟩)
      rw [← HM.out] at hO9
      exact bodyPost_cell2 rfl ⟨w.heap.size + 1, 0, none⟩ rfl [.slice (some ⟨g, 0, none⟩) segs.length k1, .int .i64 next, .int .i64 mark] _ rfl agg_Log rfl (by rw [HM.out]; exact blk_cells hzb) rfl ⟨_, rfl, own_log hO9, Below.grown BW4.out hzg BW4.out.size (fun k hk => by injection hk with hk; omega)⟩
    have hFE : F.isEmpty = false := by cases F with | nil => exact absurd rfl hF0 | cons _ _ => rfl
    have HF0 := Lib.hid hF0; clear hF0
    by_cases h1000 : (1000 : Int) ≤ next
    · have hRz : R = (⟨segs, next, mark⟩, false) := by rw [HR.out, if_pos (Or.inr (Or.inr (by omega)))]
      have HRZ := Lib.hid hRz; clear hRz
      go_wp2_with (first | ((with_reducible show wpList _ _ _ ({ dst := _, op := Op.load 46 _, type := _, pos := _, after := _, guard := _ } :: _) _ _); refine wpList_load_row _ ⟨v2.heap.size, 0, none⟩ rfl [.slice (some ⟨g, 0, none⟩) (m + 1) k1, .int .i64 next, .int .i64 mark] agg_Log rfl (blk_cells HX4.out) ?_) | ((with_reducible show wpList _ _ _ ({ dst := _, op := Op.store 46 _ _, type := _, pos := _, after := _, guard := _ } :: _) _ _); refine wpList_store_row _ (w.heap.size + 1) 46 0 [.slice (some ⟨g, 0, none⟩) (m + 1) k1, .int .i64 next, .int .i64 mark] [] [.slice none 0 0, .int .i64 0, .int .i64 0] [] _ rfl rfl agg_Log ZB4.out rfl rfl rfl (by simp [Value.oneCell']) ?_; intro v9 hzb hzg) | fail)
      rw [HRZ.out]
      have hO9 := ownsRow_keep (base' := w.heap.size) HO4.out (w' := v9) (fun k hk => ⟨by have h1 := (HO4.out.lt k hk).1; have h2 := HZ1.out; omega, hzg.block k (HO4.out.lt k hk).2 (fun e => by injection e with e; have h1 := (HO4.out.lt k hk).1; have h2 := HZ1.out; omega)⟩)
      rw [← HM.out] at hO9
      exact bodyPost_cell2 rfl ⟨w.heap.size + 1, 0, none⟩ rfl [.slice (some ⟨g, 0, none⟩) segs.length k1, .int .i64 next, .int .i64 mark] _ rfl agg_Log rfl (by rw [HM.out]; exact blk_cells hzb) rfl ⟨_, rfl, own_log hO9, Below.grown BW4.out hzg BW4.out.size (fun k hk => by injection hk with hk; omega)⟩
    have hn1000 : ¬ (1000 : Int) ≤ next := h1000
    have hft := HF1.out
    have HAG := Lib.hid (fun h6 => (addS_good (l := ⟨segs, next, mark⟩) (t := t) HLG.out (by rw [← HF1.out]; exact HF0.out) (by show next < 1000; omega)).2 h6)
    have HAG2 := Lib.hid (fun h6 => (addS_good (l := ⟨segs, next, mark⟩) (t := t) HLG.out (by rw [← HF1.out]; exact HF0.out) (by show next < 1000; omega)).1 h6)
    rw [← HF1.out] at HAG HAG2
    clear hft
    by_cases hl0 : lt = []
    · subst hl0
      have haS : addS ⟨segs, next, mark⟩ F = setLast segs ⟨lf, F⟩ := by
        unfold addS
        simp only [HLS.out]
        split
        · first | rfl | simp
        · rename_i h
          exact (h (by first | exact .inl trivial | exact .inl rfl | exact .inr h60)).elim
      have htt : trimS mark (setLast segs ⟨lf, F⟩) = setLast segs ⟨lf, F⟩ := by
        have := addS_trim (l := ⟨segs, next, mark⟩) (f := F) HLG.out (by rw [show lastS (LogD.segs ⟨segs, next, mark⟩) = lastS segs from rfl, HLS.out]; first | exact .inl rfl | exact .inr h60)
        rw [show lastS (LogD.segs ⟨segs, next, mark⟩) = lastS segs from rfl, HLS.out] at this
        simpa using this
      obtain ⟨TS, hTS⟩ : ∃ T, T = addS ⟨segs, next, mark⟩ F := ⟨_, rfl⟩
      have HTT := Lib.hid (htt.trans (haS.symm.trans hTS.symm)); clear htt
      rw [← hTS] at HR HAG HAG2 HYW
      have HTW := Lib.hid HYW.out
      have hsts := segCells_set HM.out (F)
      rw [HLS.out] at hsts
      simp only [] at hsts
      have hst := HO4.out.drew.stored (m * 2 + 1) (.string (bs (F)))
      rw [hsts] at hst
      have HO5 := Lib.hid hst.1
      have HG5 := Lib.hid hst.2
      have HX5 := Lib.hid (HX4.out.drew.grown HG5.out (fun e => hgx e.symm))
      have ZB5 := Lib.hid (ZB4.out.drew.grown HG5.out (fun e => by have := HZ1.out; omega))
      have SB5 := Lib.hid (SB4.out.drew.grown HG5.out (fun e => by have := HZ1.out; omega))
      have BW5 := Lib.hid (Below.grown BW4.out.drew HG5.out BW4.out.size (fun k hk => by injection hk with hk; have := HZ1.out; omega))
      have HXL := Lib.hid ((setLast_length segs ⟨lf, F⟩).trans HM.out)
      have HXF := Lib.hid (show ∀ s ∈ (LogD.segs ⟨setLast segs ⟨lf, F⟩, next + 1, mark⟩), 1 ≤ s.first ∧ s.first ≤ 1000 from fun s hs => by
        rcases List.mem_or_eq_of_mem_set hs with hs | hs
        · exact HF.out s hs
        · rw [hs]; exact ⟨hlf1, hlf2⟩)
      clear hsts hst haS hTS HYW
      have HX8 := Lib.hid (blk_put0 HX5.out 1 (.int .i64 (next + 1)))
      have ZB8 := Lib.hid (Blk.setOther ZB5.out (a := ⟨v2.heap.size, 1, none⟩) (by have := HZ1.out; have := HZ2.out; show v2.heap.size ≠ _; omega) (.int .i64 (next + 1)))
      have SB8 := Lib.hid (Blk.setOther SB5.out (a := ⟨v2.heap.size, 1, none⟩) (by have := HZ1.out; have := HZ2.out; show v2.heap.size ≠ _; omega) (.int .i64 (next + 1)))
      have BW8 := Lib.hid (Below.setCell BW5.out (p := ⟨v2.heap.size, 1, none⟩) (by have := HZ1.out; have := HZ2.out; show _ ≤ v2.heap.size; omega) (.int .i64 (next + 1)))
      have HO8 := Lib.hid (ownsRow_keep (base' := v1.heap.size) HO5.out (w' := (v4.drew.setCell ⟨g, m * 2 + 1, none⟩ (.string (bs (F)))).setCell ⟨v2.heap.size, 1, none⟩ (.int .i64 (next + 1))) (fun k hk => ⟨(HO5.out.lt k hk).1, by
        have e : some g = some k := hk
        injection e with e
        exact Below.heap_setCell _ _ _ _ (fun e2 => by have e3 : k = v2.heap.size := e2; omega)⟩))
      have HZ8 := Lib.hid (show v2.heap.size + 1 ≤ (World.heap ((v4.drew.setCell ⟨g, m * 2 + 1, none⟩ (.string (bs (F)))).setCell ⟨v2.heap.size, 1, none⟩ (.int .i64 (next + 1)))).size by rw [setCell_size, setCell_size]; exact HZ4.out)
      clear HO4 HX4 ZB4 SB4 BW4 HG5 HO5 HX5 ZB5 SB5 BW5
      go_wp2
      refine wp_region_x 13 [0, 1, 2, 3, 4, 5, 6, 7, 8, 9, 10, 11, 12] (by kernel_rfl) (by kernel_rfl) ?_
      iterate 13 (refine wpX_quiet rfl (by kernel_rfl) rfl ?_; go_wp2; refine ⟨rfl, ?_⟩)
      refine wpX_nil ?_; simp only [List.drop_succ_cons, List.drop_zero]
      go_wp2_with (first | ((with_reducible show wpList _ _ _ ({ dst := _, op := Op.load 46 _, type := _, pos := _, after := _, guard := _ } :: _) _ _); refine wpList_load_row _ ⟨v2.heap.size, 0, none⟩ rfl [.slice (some ⟨g, 0, none⟩) (m + 1) k1, .int .i64 (next + 1), .int .i64 mark] agg_Log rfl (blk_cells HX8.out) ?_) | fail)
      have hmine := own_log (xs := setLast segs ⟨lf, F⟩) (next := next + 1) (mark := mark) (by rw [HXL.out]; exact HO8.out)
      rw [HXL.out] at hmine
      refine (l6Trim_any ⟨setLast segs ⟨lf, F⟩, next + 1, mark⟩ [.slice (some ⟨g, 0, none⟩) (m + 1) k1, .int .i64 (next + 1), .int .i64 mark] _ v1.heap.size (by have := HZ8.out; have := HZ2.out; first | omega | (simp; omega)) (by show (setLast segs ⟨lf, F⟩).length ≤ _; rw [HXL.out]; have h1 := HM.out; have h2 := HLG.out.2.1; simp only [] at h2; omega) HXF.out hmine).mono ?_; rintro e v7 ⟨cs', rfl, hM, hb⟩
      obtain ⟨A2, k2, rfl, hrow2⟩ := log_own hM
      simp only [] at hrow2 ⊢
      rw [HTT.out] at hrow2 ⊢
      have HO7 := Lib.hid hrow2
      have ZB7 := Lib.hid (ZB8.out.below hb)
      have SB7 := Lib.hid (SB8.out.below hb)
      have BW7 := Lib.hid (show Below w.heap.size w v7 from BW8.out.trans (hb.mono BW8.out.size))
      have HZ7 := Lib.hid (Nat.le_trans HZ8.out hb.size)
      clear hM hb hrow2 hmine HO8 ZB8 SB8 BW8 HZ8
      go_wp2_with (first | ((with_reducible show wpList _ _ _ ({ dst := _, op := Op.store 46 _ _, type := _, pos := _, after := _, guard := _ } :: _) _ _); refine wpList_store_row _ v7.heap.size 46 0 [.slice A2 TS.length k2, .int .i64 (next + 1), .int .i64 mark] [] [.slice none 0 0, .int .i64 0, .int .i64 0] [] _ rfl rfl agg_Log (blk_new v7 _ _) rfl rfl rfl (by simp [Value.oneCell']) ?_; intro v8 hsb hsg; have HY := Lib.hid (show Blk v8 v7.heap.size 46 [.slice A2 TS.length k2, .int .i64 (next + 1), .int .i64 mark].toArray by simpa using hsb); have HO8 := Lib.hid ((HO7.out.alloc (.cells #[.slice none 0 0, .int .i64 0, .int .i64 0] 46)).kept hsg (.inr (fun e => by have := (HO7.out.lt _ e).2; omega))); have ZB8 := Lib.hid ((ZB7.out.alloc (.cells #[.slice none 0 0, .int .i64 0, .int .i64 0] 46)).grown hsg (fun e => by have := ZB7.out.lt; omega)); have SB8 := Lib.hid ((SB7.out.alloc (.cells #[.slice none 0 0, .int .i64 0, .int .i64 0] 46)).grown hsg (fun e => by have := SB7.out.lt; omega)); have BW8 := Lib.hid (Below.grown (BW7.out.alloc BW7.out.size _) hsg (Nat.le_trans BW7.out.size (by simp)) (fun k hk => by injection hk with hk; have := BW7.out.size; omega)); have HZ8 := Lib.hid (show v7.heap.size + 1 ≤ v8.heap.size from Nat.le_trans (by simp) hsg.size); clear hsb hsg) | ((with_reducible show wpList _ _ _ ({ dst := _, op := Op.load 46 _, type := _, pos := _, after := _, guard := _ } :: _) _ _); refine wpList_load_row _ ⟨v7.heap.size, 0, none⟩ rfl [.slice A2 TS.length k2, .int .i64 (next + 1), .int .i64 mark] agg_Log rfl (blk_cells HY.out) ?_) | fail)
      refine (sLogOk_any ⟨TS, next + 1, mark⟩ _ _ (by have := HTW.out; show TS.length + (cat SegD.c TS).wt + 0 ≤ _; omega) ((own_log HO8.out).rep.any)).mono ?_; rintro e v9 ⟨rfl, hb⟩
      have HY9 := Lib.hid (HY.out.below hb)
      have HO9 := Lib.hid (HO8.out.keptBelow hb)
      have ZB9 := Lib.hid (ZB8.out.below hb)
      have SB9 := Lib.hid (SB8.out.below hb)
      have BW9 := Lib.hid (show Below w.heap.size w v9 from BW8.out.trans (hb.mono BW8.out.size))
      have HZ9 := Lib.hid (show w.heap.size + 1 + 1 ≤ v9.heap.size from by have := HZ7.out; have := HZ8.out; have := hb.size; have := HZ1.out; have := HZ2.out; omega)
      clear hb HY HO8 ZB8 SB8 BW8 HO7 ZB7 SB7 BW7
      by_cases h6 : TS.length ≤ 6
      · rw [logOk_yes (HAG.out h6)]
        have hRz : R = (⟨TS, next + 1, mark⟩, true) := by
          rw [HR.out, if_neg]
          rintro (h | h | h)
          · exact HF0.out h
          · omega
          · omega
        have HRZ := Lib.hid hRz; clear hRz
        go_wp2_with (first | ((with_reducible show wpList _ _ _ ({ dst := _, op := Op.load 46 _, type := _, pos := _, after := _, guard := _ } :: _) _ _); refine wpList_load_row _ ⟨v7.heap.size, 0, none⟩ rfl [.slice A2 TS.length k2, .int .i64 (next + 1), .int .i64 mark] agg_Log rfl (blk_cells HY9.out) ?_) | ((with_reducible show wpList _ _ _ ({ dst := _, op := Op.store 46 _ _, type := _, pos := _, after := _, guard := _ } :: _) _ _); refine wpList_store_row _ (w.heap.size + 1) 46 0 [.slice A2 TS.length k2, .int .i64 (next + 1), .int .i64 mark] [] [.slice none 0 0, .int .i64 0, .int .i64 0] [] _ rfl rfl agg_Log ZB9.out rfl rfl rfl (by simp [Value.oneCell']) ?_; intro v10 hzb hzg) | fail)
        rw [HRZ.out]
        have hO10 := ownsRow_keep (base' := w.heap.size) HO9.out (w' := v10) (fun k hk => ⟨by have h1 := (HO9.out.lt k hk).1; have h2 := HZ1.out; omega, hzg.block k (HO9.out.lt k hk).2 (fun e => by injection e with e; have h1 := (HO9.out.lt k hk).1; have h2 := HZ1.out; omega)⟩)
        exact bodyPost_cell2 rfl ⟨w.heap.size + 1, 0, none⟩ rfl [.slice A2 TS.length k2, .int .i64 (next + 1), .int .i64 mark] _ rfl agg_Log rfl (blk_cells hzb) rfl ⟨_, rfl, own_log hO10, Below.grown BW9.out hzg BW9.out.size (fun k hk => by injection hk with hk; omega)⟩
      · rw [logOk_no (fun h => h6 (HAG2.out h))]
        have hRz : R = (⟨segs, next, mark⟩, false) := by rw [HR.out, if_pos (Or.inr (Or.inl (by omega)))]
        have HRZ := Lib.hid hRz; clear hRz
        go_wp2_with (first | ((with_reducible show wpList _ _ _ ({ dst := _, op := Op.load 46 _, type := _, pos := _, after := _, guard := _ } :: _) _ _); refine wpList_load_row _ ⟨w.heap.size, 0, none⟩ rfl [.slice A0 (m + 1) k0, .int .i64 next, .int .i64 mark] agg_Log rfl (blk_cells SB9.out) ?_) | fail)
        refine (l6Copy_any ⟨segs, next, mark⟩ _ _ HW.out (HA2.out.below BW9.out)).mono ?_; rintro e v11 ⟨cs', rfl, hM, hb⟩
        obtain ⟨A9, k9, rfl, hrow9⟩ := log_own hM
        simp only [] at hrow9 ⊢
        have HO11 := Lib.hid hrow9
        have ZB11 := Lib.hid (ZB9.out.below hb)
        have BW11 := Lib.hid (show Below w.heap.size w v11 from BW9.out.trans (hb.mono BW9.out.size))
        clear hM hb hrow9
        go_wp2_with (first | ((with_reducible show wpList _ _ _ ({ dst := _, op := Op.store 46 _ _, type := _, pos := _, after := _, guard := _ } :: _) _ _); refine wpList_store_row _ (w.heap.size + 1) 46 0 [.slice A9 segs.length k9, .int .i64 next, .int .i64 mark] [] [.slice none 0 0, .int .i64 0, .int .i64 0] [] _ rfl rfl agg_Log ZB11.out rfl rfl rfl (by simp [Value.oneCell']) ?_; intro v12 hzb hzg) | fail)
        rw [HRZ.out]
        have hO12 := ownsRow_keep (base' := w.heap.size) HO11.out (w' := v12) (fun k hk => ⟨by have h1 := (HO11.out.lt k hk).1; have h2 := HZ9.out; omega, hzg.block k (HO11.out.lt k hk).2 (fun e => by injection e with e; have h1 := (HO11.out.lt k hk).1; have h2 := HZ9.out; omega)⟩)
        exact bodyPost_cell2 rfl ⟨w.heap.size + 1, 0, none⟩ rfl [.slice A9 segs.length k9, .int .i64 next, .int .i64 mark] _ rfl agg_Log rfl (blk_cells hzb) rfl ⟨_, rfl, own_log hO12, Below.grown BW11.out hzg BW11.out.size (fun k hk => by injection hk with hk; omega)⟩
    · have hE1 : lt.isEmpty = false := by cases lt with | nil => exact absurd rfl hl0 | cons _ _ => rfl
      by_cases h60 : lt.length + F.length ≤ 60
      · have h60' : (lt.length : Int) + (F.length : Int) ≤ 60 := by omega
        have haS : addS ⟨segs, next, mark⟩ F = setLast segs ⟨lf, lt ++ F⟩ := by
          unfold addS
          simp only [HLS.out]
          split
          · first | rfl | simp
          · rename_i h
            exact (h (by first | exact .inl trivial | exact .inl rfl | exact .inr h60)).elim
        have htt : trimS mark (setLast segs ⟨lf, lt ++ F⟩) = setLast segs ⟨lf, lt ++ F⟩ := by
          have := addS_trim (l := ⟨segs, next, mark⟩) (f := F) HLG.out (by rw [show lastS (LogD.segs ⟨segs, next, mark⟩) = lastS segs from rfl, HLS.out]; first | exact .inl rfl | exact .inr h60)
          rw [show lastS (LogD.segs ⟨segs, next, mark⟩) = lastS segs from rfl, HLS.out] at this
          simpa using this
        obtain ⟨TS, hTS⟩ : ∃ T, T = addS ⟨segs, next, mark⟩ F := ⟨_, rfl⟩
        have HTT := Lib.hid (htt.trans (haS.symm.trans hTS.symm)); clear htt
        rw [← hTS] at HR HAG HAG2 HYW
        have HTW := Lib.hid HYW.out
        have hsts := segCells_set HM.out (lt ++ F)
        rw [HLS.out] at hsts
        simp only [] at hsts
        have hst := HO4.out.drew.stored (m * 2 + 1) (.string (bs (lt ++ F)))
        rw [hsts] at hst
        have HO5 := Lib.hid hst.1
        have HG5 := Lib.hid hst.2
        have HX5 := Lib.hid (HX4.out.drew.grown HG5.out (fun e => hgx e.symm))
        have ZB5 := Lib.hid (ZB4.out.drew.grown HG5.out (fun e => by have := HZ1.out; omega))
        have SB5 := Lib.hid (SB4.out.drew.grown HG5.out (fun e => by have := HZ1.out; omega))
        have BW5 := Lib.hid (Below.grown BW4.out.drew HG5.out BW4.out.size (fun k hk => by injection hk with hk; have := HZ1.out; omega))
        have HXL := Lib.hid ((setLast_length segs ⟨lf, lt ++ F⟩).trans HM.out)
        have HXF := Lib.hid (show ∀ s ∈ (LogD.segs ⟨setLast segs ⟨lf, lt ++ F⟩, next + 1, mark⟩), 1 ≤ s.first ∧ s.first ≤ 1000 from fun s hs => by
          rcases List.mem_or_eq_of_mem_set hs with hs | hs
          · exact HF.out s hs
          · rw [hs]; exact ⟨hlf1, hlf2⟩)
        clear hsts hst haS hTS HYW
        have HX8 := Lib.hid (blk_put0 HX5.out 1 (.int .i64 (next + 1)))
        have ZB8 := Lib.hid (Blk.setOther ZB5.out (a := ⟨v2.heap.size, 1, none⟩) (by have := HZ1.out; have := HZ2.out; show v2.heap.size ≠ _; omega) (.int .i64 (next + 1)))
        have SB8 := Lib.hid (Blk.setOther SB5.out (a := ⟨v2.heap.size, 1, none⟩) (by have := HZ1.out; have := HZ2.out; show v2.heap.size ≠ _; omega) (.int .i64 (next + 1)))
        have BW8 := Lib.hid (Below.setCell BW5.out (p := ⟨v2.heap.size, 1, none⟩) (by have := HZ1.out; have := HZ2.out; show _ ≤ v2.heap.size; omega) (.int .i64 (next + 1)))
        have HO8 := Lib.hid (ownsRow_keep (base' := v1.heap.size) HO5.out (w' := (v4.drew.setCell ⟨g, m * 2 + 1, none⟩ (.string (bs (lt ++ F)))).setCell ⟨v2.heap.size, 1, none⟩ (.int .i64 (next + 1))) (fun k hk => ⟨(HO5.out.lt k hk).1, by
          have e : some g = some k := hk
          injection e with e
          exact Below.heap_setCell _ _ _ _ (fun e2 => by have e3 : k = v2.heap.size := e2; omega)⟩))
        have HZ8 := Lib.hid (show v2.heap.size + 1 ≤ (World.heap ((v4.drew.setCell ⟨g, m * 2 + 1, none⟩ (.string (bs (lt ++ F)))).setCell ⟨v2.heap.size, 1, none⟩ (.int .i64 (next + 1)))).size by rw [setCell_size, setCell_size]; exact HZ4.out)
        clear HO4 HX4 ZB4 SB4 BW4 HG5 HO5 HX5 ZB5 SB5 BW5
        go_wp2
        refine wp_region_x 13 [0, 1, 2, 3, 4, 5, 6, 7, 8, 9, 10, 11, 12] (by kernel_rfl) (by kernel_rfl) ?_
        iterate 13 (refine wpX_quiet rfl (by kernel_rfl) rfl ?_; go_wp2; refine ⟨rfl, ?_⟩)
        refine wpX_nil ?_; simp only [List.drop_succ_cons, List.drop_zero]
        go_wp2_with (first | ((with_reducible show wpList _ _ _ ({ dst := _, op := Op.load 46 _, type := _, pos := _, after := _, guard := _ } :: _) _ _); refine wpList_load_row _ ⟨v2.heap.size, 0, none⟩ rfl [.slice (some ⟨g, 0, none⟩) (m + 1) k1, .int .i64 (next + 1), .int .i64 mark] agg_Log rfl (blk_cells HX8.out) ?_) | fail)
        have hmine := own_log (xs := setLast segs ⟨lf, lt ++ F⟩) (next := next + 1) (mark := mark) (by rw [HXL.out]; exact HO8.out)
        rw [HXL.out] at hmine
        refine (l6Trim_any ⟨setLast segs ⟨lf, lt ++ F⟩, next + 1, mark⟩ [.slice (some ⟨g, 0, none⟩) (m + 1) k1, .int .i64 (next + 1), .int .i64 mark] _ v1.heap.size (by have := HZ8.out; have := HZ2.out; first | omega | (simp; omega)) (by show (setLast segs ⟨lf, lt ++ F⟩).length ≤ _; rw [HXL.out]; have h1 := HM.out; have h2 := HLG.out.2.1; simp only [] at h2; omega) HXF.out hmine).mono ?_; rintro e v7 ⟨cs', rfl, hM, hb⟩
        obtain ⟨A2, k2, rfl, hrow2⟩ := log_own hM
        simp only [] at hrow2 ⊢
        rw [HTT.out] at hrow2 ⊢
        have HO7 := Lib.hid hrow2
        have ZB7 := Lib.hid (ZB8.out.below hb)
        have SB7 := Lib.hid (SB8.out.below hb)
        have BW7 := Lib.hid (show Below w.heap.size w v7 from BW8.out.trans (hb.mono BW8.out.size))
        have HZ7 := Lib.hid (Nat.le_trans HZ8.out hb.size)
        clear hM hb hrow2 hmine HO8 ZB8 SB8 BW8 HZ8
        go_wp2_with (first | ((with_reducible show wpList _ _ _ ({ dst := _, op := Op.store 46 _ _, type := _, pos := _, after := _, guard := _ } :: _) _ _); refine wpList_store_row _ v7.heap.size 46 0 [.slice A2 TS.length k2, .int .i64 (next + 1), .int .i64 mark] [] [.slice none 0 0, .int .i64 0, .int .i64 0] [] _ rfl rfl agg_Log (blk_new v7 _ _) rfl rfl rfl (by simp [Value.oneCell']) ?_; intro v8 hsb hsg; have HY := Lib.hid (show Blk v8 v7.heap.size 46 [.slice A2 TS.length k2, .int .i64 (next + 1), .int .i64 mark].toArray by simpa using hsb); have HO8 := Lib.hid ((HO7.out.alloc (.cells #[.slice none 0 0, .int .i64 0, .int .i64 0] 46)).kept hsg (.inr (fun e => by have := (HO7.out.lt _ e).2; omega))); have ZB8 := Lib.hid ((ZB7.out.alloc (.cells #[.slice none 0 0, .int .i64 0, .int .i64 0] 46)).grown hsg (fun e => by have := ZB7.out.lt; omega)); have SB8 := Lib.hid ((SB7.out.alloc (.cells #[.slice none 0 0, .int .i64 0, .int .i64 0] 46)).grown hsg (fun e => by have := SB7.out.lt; omega)); have BW8 := Lib.hid (Below.grown (BW7.out.alloc BW7.out.size _) hsg (Nat.le_trans BW7.out.size (by simp)) (fun k hk => by injection hk with hk; have := BW7.out.size; omega)); have HZ8 := Lib.hid (show v7.heap.size + 1 ≤ v8.heap.size from Nat.le_trans (by simp) hsg.size); clear hsb hsg) | ((with_reducible show wpList _ _ _ ({ dst := _, op := Op.load 46 _, type := _, pos := _, after := _, guard := _ } :: _) _ _); refine wpList_load_row _ ⟨v7.heap.size, 0, none⟩ rfl [.slice A2 TS.length k2, .int .i64 (next + 1), .int .i64 mark] agg_Log rfl (blk_cells HY.out) ?_) | fail)
        refine (sLogOk_any ⟨TS, next + 1, mark⟩ _ _ (by have := HTW.out; show TS.length + (cat SegD.c TS).wt + 0 ≤ _; omega) ((own_log HO8.out).rep.any)).mono ?_; rintro e v9 ⟨rfl, hb⟩
        have HY9 := Lib.hid (HY.out.below hb)
        have HO9 := Lib.hid (HO8.out.keptBelow hb)
        have ZB9 := Lib.hid (ZB8.out.below hb)
        have SB9 := Lib.hid (SB8.out.below hb)
        have BW9 := Lib.hid (show Below w.heap.size w v9 from BW8.out.trans (hb.mono BW8.out.size))
        have HZ9 := Lib.hid (show w.heap.size + 1 + 1 ≤ v9.heap.size from by have := HZ7.out; have := HZ8.out; have := hb.size; have := HZ1.out; have := HZ2.out; omega)
        clear hb HY HO8 ZB8 SB8 BW8 HO7 ZB7 SB7 BW7
        by_cases h6 : TS.length ≤ 6
        · rw [logOk_yes (HAG.out h6)]
          have hRz : R = (⟨TS, next + 1, mark⟩, true) := by
            rw [HR.out, if_neg]
            rintro (h | h | h)
            · exact HF0.out h
            · omega
            · omega
          have HRZ := Lib.hid hRz; clear hRz
          go_wp2_with (first | ((with_reducible show wpList _ _ _ ({ dst := _, op := Op.load 46 _, type := _, pos := _, after := _, guard := _ } :: _) _ _); refine wpList_load_row _ ⟨v7.heap.size, 0, none⟩ rfl [.slice A2 TS.length k2, .int .i64 (next + 1), .int .i64 mark] agg_Log rfl (blk_cells HY9.out) ?_) | ((with_reducible show wpList _ _ _ ({ dst := _, op := Op.store 46 _ _, type := _, pos := _, after := _, guard := _ } :: _) _ _); refine wpList_store_row _ (w.heap.size + 1) 46 0 [.slice A2 TS.length k2, .int .i64 (next + 1), .int .i64 mark] [] [.slice none 0 0, .int .i64 0, .int .i64 0] [] _ rfl rfl agg_Log ZB9.out rfl rfl rfl (by simp [Value.oneCell']) ?_; intro v10 hzb hzg) | fail)
          rw [HRZ.out]
          have hO10 := ownsRow_keep (base' := w.heap.size) HO9.out (w' := v10) (fun k hk => ⟨by have h1 := (HO9.out.lt k hk).1; have h2 := HZ1.out; omega, hzg.block k (HO9.out.lt k hk).2 (fun e => by injection e with e; have h1 := (HO9.out.lt k hk).1; have h2 := HZ1.out; omega)⟩)
          exact bodyPost_cell2 rfl ⟨w.heap.size + 1, 0, none⟩ rfl [.slice A2 TS.length k2, .int .i64 (next + 1), .int .i64 mark] _ rfl agg_Log rfl (blk_cells hzb) rfl ⟨_, rfl, own_log hO10, Below.grown BW9.out hzg BW9.out.size (fun k hk => by injection hk with hk; omega)⟩
        · rw [logOk_no (fun h => h6 (HAG2.out h))]
          have hRz : R = (⟨segs, next, mark⟩, false) := by rw [HR.out, if_pos (Or.inr (Or.inl (by omega)))]
          have HRZ := Lib.hid hRz; clear hRz
          go_wp2_with (first | ((with_reducible show wpList _ _ _ ({ dst := _, op := Op.load 46 _, type := _, pos := _, after := _, guard := _ } :: _) _ _); refine wpList_load_row _ ⟨w.heap.size, 0, none⟩ rfl [.slice A0 (m + 1) k0, .int .i64 next, .int .i64 mark] agg_Log rfl (blk_cells SB9.out) ?_) | fail)
          refine (l6Copy_any ⟨segs, next, mark⟩ _ _ HW.out (HA2.out.below BW9.out)).mono ?_; rintro e v11 ⟨cs', rfl, hM, hb⟩
          obtain ⟨A9, k9, rfl, hrow9⟩ := log_own hM
          simp only [] at hrow9 ⊢
          have HO11 := Lib.hid hrow9
          have ZB11 := Lib.hid (ZB9.out.below hb)
          have BW11 := Lib.hid (show Below w.heap.size w v11 from BW9.out.trans (hb.mono BW9.out.size))
          clear hM hb hrow9
          go_wp2_with (first | ((with_reducible show wpList _ _ _ ({ dst := _, op := Op.store 46 _ _, type := _, pos := _, after := _, guard := _ } :: _) _ _); refine wpList_store_row _ (w.heap.size + 1) 46 0 [.slice A9 segs.length k9, .int .i64 next, .int .i64 mark] [] [.slice none 0 0, .int .i64 0, .int .i64 0] [] _ rfl rfl agg_Log ZB11.out rfl rfl rfl (by simp [Value.oneCell']) ?_; intro v12 hzb hzg) | fail)
          rw [HRZ.out]
          have hO12 := ownsRow_keep (base' := w.heap.size) HO11.out (w' := v12) (fun k hk => ⟨by have h1 := (HO11.out.lt k hk).1; have h2 := HZ9.out; omega, hzg.block k (HO11.out.lt k hk).2 (fun e => by injection e with e; have h1 := (HO11.out.lt k hk).1; have h2 := HZ9.out; omega)⟩)
          exact bodyPost_cell2 rfl ⟨w.heap.size + 1, 0, none⟩ rfl [.slice A9 segs.length k9, .int .i64 next, .int .i64 mark] _ rfl agg_Log rfl (blk_cells hzb) rfl ⟨_, rfl, own_log hO12, Below.grown BW11.out hzg BW11.out.size (fun k hk => by injection hk with hk; omega)⟩
      · have h60' : ¬ (lt.length : Int) + (F.length : Int) ≤ 60 := by omega
        have haS : addS ⟨segs, next, mark⟩ F = trimS mark (segs ++ [⟨next, F⟩]) := by
          unfold addS
          simp only [HLS.out]
          rw [if_neg (by rintro (h | h); exact hl0 h; omega)]
        obtain ⟨TS, hTS⟩ : ∃ T, T = addS ⟨segs, next, mark⟩ F := ⟨_, rfl⟩
        have HTT := Lib.hid (haS.symm.trans hTS.symm)
        rw [← hTS] at HR HAG HAG2 HYW
        have HTW := Lib.hid HYW.out
        clear haS hTS HYW
        go_wp2_with (first
          | (at_builtin; go_must (refine wpList_app E_Seg _ rfl _ _ rfl v1.heap.size _ (m + 1) _ rfl (HO4.out.alloc _) _ _ _ _ rfl (Reads.new rfl) (by simp [Value.oneCell']) (by omega) (by have := HZ2.out; have := HZ4.out; simp; omega) ?_; intro vv v5 hown hg5 hat; obtain ⟨Av, kv, rfl, _⟩ := SlR.of_own hown; have hcb := Blk.keep (HX4.out.alloc (.cells #[.int .i64 next, .string (bs F)] 90)) (hg5.block _ (HX4.out.alloc _).lt (fun e => by have e2 : some v2.heap.size = some g := e; injection e2 with e2; omega)); have hq5 : v5.cell? ⟨v2.heap.size, 0, none⟩ = some (.slice (some ⟨g, 0, none⟩) (m + 1) k1) := blk_cell0 (L := [.slice (some ⟨g, 0, none⟩) (m + 1) k1, .int .i64 next, .int .i64 mark]) hcb 0 rfl; have hfz5 : v5.frozen? ⟨v2.heap.size, 0, none⟩ = false := hcb.frozen 0; have hq51 : v5.cell? ⟨v2.heap.size, 1, none⟩ = some (.int .i64 next) := blk_cell0 (L := [.slice (some ⟨g, 0, none⟩) (m + 1) k1, .int .i64 next, .int .i64 mark]) hcb 1 rfl; have hfz51 : v5.frozen? ⟨v2.heap.size, 1, none⟩ = false := hcb.frozen 1; have HX5 := Lib.hid hcb; have HO5 := Lib.hid hown; have HG5 := Lib.hid hg5; have HAT := Lib.hid hat; have HX8 := Lib.hid (blk_put0 (blk_put0 hcb 0 (.slice Av (m + 1 + 1) kv)) 1 (.int .i64 (next + 1))); clear hcb hown hg5 hat))
          | ((with_reducible show wpList _ _ _ ({ dst := _, op := Op.load 46 _, type := _, pos := _, after := _, guard := _ } :: _) _ _); refine wpList_load_row _ ⟨v2.heap.size, 0, none⟩ rfl [.slice Av (m + 1 + 1) kv, .int .i64 (next + 1), .int .i64 mark] agg_Log rfl (blk_cells HX8.out) ?_) | fail)
        have hbv : ∀ k, (Value.slice Av (m + 1 + 1) kv).ownBlock = some k → k ≠ v2.heap.size := fun k hk e => by
          rcases HAT.out with h | h
          · have e1 : some g = some k := h.symm.trans hk
            injection e1 with e1; omega
          · have e1 := hk.symm.trans h
            injection e1 with e1
            have := HZ4.out
            simp at e1
            omega
        have hcells : segCells segs ++ #[Value.int .i64 next, Value.string (bs F)].toList = segCells (segs ++ [⟨next, F⟩]) := by rw [segCells_snoc]
        have HSZ5 := Lib.hid (show v4.heap.size + 1 ≤ v5.heap.size from Nat.le_trans (by simp) HG5.out.size)
        have HO8 := Lib.hid (show ((v5.setCell ⟨v2.heap.size, 0, none⟩ (.slice Av (m + 1 + 1) kv)).setCell ⟨v2.heap.size, 1, none⟩ (.int .i64 (next + 1))).ownsRow v1.heap.size 90 2 (.slice Av (m + 1 + 1) kv) (m + 1 + 1) (segCells (segs ++ [⟨next, F⟩])) from by
          rw [← hcells]
          exact ownsRow_keep HO5.out (fun k hk => ⟨(HO5.out.lt k hk).1, (Below.heap_setCell _ _ _ _ (hbv k hk)).trans (Below.heap_setCell _ _ _ _ (hbv k hk))⟩))
        have hzb5 := Blk.keep (ZB4.out.alloc (.cells #[.int .i64 next, .string (bs F)] 90)) (HG5.out.block _ (ZB4.out.alloc _).lt (fun e => by have e2 : some (w.heap.size + 1) = some g := e; injection e2 with e2; have := HZ1.out; omega))
        have hsb5 := Blk.keep (SB4.out.alloc (.cells #[.int .i64 next, .string (bs F)] 90)) (HG5.out.block _ (SB4.out.alloc _).lt (fun e => by have e2 : some w.heap.size = some g := e; injection e2 with e2; have := HZ1.out; omega))
        have hbw5 : Below w.heap.size w v5 := Below.grown (BW4.out.alloc BW4.out.size _) HG5.out (Nat.le_trans BW4.out.size (by simp)) (fun k hk => by have e2 : some g = some k := hk; injection e2 with e2; have := HZ1.out; omega)
        have hne1 : ∀ b, b ≤ w.heap.size + 1 → v2.heap.size ≠ b := fun b hb => by have := HZ1.out; have := HZ2.out; omega
        have ZB8 := Lib.hid (Blk.setOther (Blk.setOther hzb5 (a := ⟨v2.heap.size, 0, none⟩) (hne1 _ (Nat.le_refl _)) (.slice Av (m + 1 + 1) kv)) (a := ⟨v2.heap.size, 1, none⟩) (hne1 _ (Nat.le_refl _)) (.int .i64 (next + 1)))
        have SB8 := Lib.hid (Blk.setOther (Blk.setOther hsb5 (a := ⟨v2.heap.size, 0, none⟩) (hne1 _ (Nat.le_succ _)) (.slice Av (m + 1 + 1) kv)) (a := ⟨v2.heap.size, 1, none⟩) (hne1 _ (Nat.le_succ _)) (.int .i64 (next + 1)))
        have BW8 := Lib.hid (Below.setCell (Below.setCell hbw5 (p := ⟨v2.heap.size, 0, none⟩) (by have := HZ1.out; have := HZ2.out; show _ ≤ v2.heap.size; omega) (.slice Av (m + 1 + 1) kv)) (p := ⟨v2.heap.size, 1, none⟩) (by have := HZ1.out; have := HZ2.out; show _ ≤ v2.heap.size; omega) (.int .i64 (next + 1)))
        have HXL := Lib.hid (show (segs ++ [(⟨next, F⟩ : SegD)]).length = m + 1 + 1 by rw [List.length_append, HM.out]; rfl)
        have HXF := Lib.hid (show ∀ s ∈ (LogD.segs ⟨segs ++ [⟨next, F⟩], next + 1, mark⟩), 1 ≤ s.first ∧ s.first ≤ 1000 from fun s hs => by
          rcases List.mem_append.1 hs with hs | hs
          · exact HF.out s hs
          · have : s = (⟨next, F⟩ : SegD) := by simpa using hs
            subst this
            exact ⟨by show 1 ≤ next; omega, hnx⟩)
        have HZ8 := Lib.hid (show v2.heap.size + 1 ≤ (World.heap ((v5.setCell ⟨v2.heap.size, 0, none⟩ (.slice Av (m + 1 + 1) kv)).setCell ⟨v2.heap.size, 1, none⟩ (.int .i64 (next + 1)))).size by rw [setCell_size, setCell_size]; have := HZ4.out; have := HSZ5.out; omega)
        clear hcells hzb5 hsb5 hbw5 hbv hne1 HO4 HX4 ZB4 SB4 BW4 HX5 HO5 HG5 hq5 hfz5 hq51 hfz51 hx0 hx1 hfx1 hfx0 hp1 hcb1 hfz1
        have hmine := own_log (xs := segs ++ [(⟨next, F⟩ : SegD)]) (next := next + 1) (mark := mark) (by rw [HXL.out]; exact HO8.out)
        rw [HXL.out] at hmine
        refine (l6Trim_any ⟨segs ++ [(⟨next, F⟩ : SegD)], next + 1, mark⟩ [.slice Av (m + 1 + 1) kv, .int .i64 (next + 1), .int .i64 mark] _ v1.heap.size (by have := HZ8.out; have := HZ2.out; first | omega | (simp; omega)) (by show (segs ++ [(⟨next, F⟩ : SegD)]).length ≤ _; rw [HXL.out]; have h1 := HM.out; have h2 := HLG.out.2.1; simp only [] at h2; omega) HXF.out hmine).mono ?_; rintro e v7 ⟨cs', rfl, hM, hb⟩
        obtain ⟨A2, k2, rfl, hrow2⟩ := log_own hM
        simp only [] at hrow2 ⊢
        rw [HTT.out] at hrow2 ⊢
        have HO7 := Lib.hid hrow2
        have ZB7 := Lib.hid (ZB8.out.below hb)
        have SB7 := Lib.hid (SB8.out.below hb)
        have BW7 := Lib.hid (show Below w.heap.size w v7 from BW8.out.trans (hb.mono BW8.out.size))
        have HZ7 := Lib.hid (Nat.le_trans HZ8.out hb.size)
        clear hM hb hrow2 hmine HO8 ZB8 SB8 BW8 HZ8
        go_wp2_with (first | ((with_reducible show wpList _ _ _ ({ dst := _, op := Op.store 46 _ _, type := _, pos := _, after := _, guard := _ } :: _) _ _); refine wpList_store_row _ v7.heap.size 46 0 [.slice A2 TS.length k2, .int .i64 (next + 1), .int .i64 mark] [] [.slice none 0 0, .int .i64 0, .int .i64 0] [] _ rfl rfl agg_Log (blk_new v7 _ _) rfl rfl rfl (by simp [Value.oneCell']) ?_; intro v8 hsb hsg; have HY := Lib.hid (show Blk v8 v7.heap.size 46 [.slice A2 TS.length k2, .int .i64 (next + 1), .int .i64 mark].toArray by simpa using hsb); have HO8 := Lib.hid ((HO7.out.alloc (.cells #[.slice none 0 0, .int .i64 0, .int .i64 0] 46)).kept hsg (.inr (fun e => by have := (HO7.out.lt _ e).2; omega))); have ZB8 := Lib.hid ((ZB7.out.alloc (.cells #[.slice none 0 0, .int .i64 0, .int .i64 0] 46)).grown hsg (fun e => by have := ZB7.out.lt; omega)); have SB8 := Lib.hid ((SB7.out.alloc (.cells #[.slice none 0 0, .int .i64 0, .int .i64 0] 46)).grown hsg (fun e => by have := SB7.out.lt; omega)); have BW8 := Lib.hid (Below.grown (BW7.out.alloc BW7.out.size _) hsg (Nat.le_trans BW7.out.size (by simp)) (fun k hk => by injection hk with hk; have := BW7.out.size; omega)); have HZ8 := Lib.hid (show v7.heap.size + 1 ≤ v8.heap.size from Nat.le_trans (by simp) hsg.size); clear hsb hsg) | ((with_reducible show wpList _ _ _ ({ dst := _, op := Op.load 46 _, type := _, pos := _, after := _, guard := _ } :: _) _ _); refine wpList_load_row _ ⟨v7.heap.size, 0, none⟩ rfl [.slice A2 TS.length k2, .int .i64 (next + 1), .int .i64 mark] agg_Log rfl (blk_cells HY.out) ?_) | fail)
        refine (sLogOk_any ⟨TS, next + 1, mark⟩ _ _ (by have := HTW.out; show TS.length + (cat SegD.c TS).wt + 0 ≤ _; omega) ((own_log HO8.out).rep.any)).mono ?_; rintro e v9 ⟨rfl, hb⟩
        have HY9 := Lib.hid (HY.out.below hb)
        have HO9 := Lib.hid (HO8.out.keptBelow hb)
        have ZB9 := Lib.hid (ZB8.out.below hb)
        have SB9 := Lib.hid (SB8.out.below hb)
        have BW9 := Lib.hid (show Below w.heap.size w v9 from BW8.out.trans (hb.mono BW8.out.size))
        have HZ9 := Lib.hid (show w.heap.size + 1 + 1 ≤ v9.heap.size from by have := HZ7.out; have := HZ8.out; have := hb.size; have := HZ1.out; have := HZ2.out; omega)
        clear hb HY HO8 ZB8 SB8 BW8 HO7 ZB7 SB7 BW7
        by_cases h6 : TS.length ≤ 6
        · rw [logOk_yes (HAG.out h6)]
          have hRz : R = (⟨TS, next + 1, mark⟩, true) := by
            rw [HR.out, if_neg]
            rintro (h | h | h)
            · exact HF0.out h
            · omega
            · omega
          have HRZ := Lib.hid hRz; clear hRz
          go_wp2_with (first | ((with_reducible show wpList _ _ _ ({ dst := _, op := Op.load 46 _, type := _, pos := _, after := _, guard := _ } :: _) _ _); refine wpList_load_row _ ⟨v7.heap.size, 0, none⟩ rfl [.slice A2 TS.length k2, .int .i64 (next + 1), .int .i64 mark] agg_Log rfl (blk_cells HY9.out) ?_) | ((with_reducible show wpList _ _ _ ({ dst := _, op := Op.store 46 _ _, type := _, pos := _, after := _, guard := _ } :: _) _ _); refine wpList_store_row _ (w.heap.size + 1) 46 0 [.slice A2 TS.length k2, .int .i64 (next + 1), .int .i64 mark] [] [.slice none 0 0, .int .i64 0, .int .i64 0] [] _ rfl rfl agg_Log ZB9.out rfl rfl rfl (by simp [Value.oneCell']) ?_; intro v10 hzb hzg) | fail)
          rw [HRZ.out]
          have hO10 := ownsRow_keep (base' := w.heap.size) HO9.out (w' := v10) (fun k hk => ⟨by have h1 := (HO9.out.lt k hk).1; have h2 := HZ1.out; omega, hzg.block k (HO9.out.lt k hk).2 (fun e => by injection e with e; have h1 := (HO9.out.lt k hk).1; have h2 := HZ1.out; omega)⟩)
          exact bodyPost_cell2 rfl ⟨w.heap.size + 1, 0, none⟩ rfl [.slice A2 TS.length k2, .int .i64 (next + 1), .int .i64 mark] _ rfl agg_Log rfl (blk_cells hzb) rfl ⟨_, rfl, own_log hO10, Below.grown BW9.out hzg BW9.out.size (fun k hk => by injection hk with hk; omega)⟩
        · rw [logOk_no (fun h => h6 (HAG2.out h))]
          have hRz : R = (⟨segs, next, mark⟩, false) := by rw [HR.out, if_pos (Or.inr (Or.inl (by omega)))]
          have HRZ := Lib.hid hRz; clear hRz
          go_wp2_with (first | ((with_reducible show wpList _ _ _ ({ dst := _, op := Op.load 46 _, type := _, pos := _, after := _, guard := _ } :: _) _ _); refine wpList_load_row _ ⟨w.heap.size, 0, none⟩ rfl [.slice A0 (m + 1) k0, .int .i64 next, .int .i64 mark] agg_Log rfl (blk_cells SB9.out) ?_) | fail)
          refine (l6Copy_any ⟨segs, next, mark⟩ _ _ HW.out (HA2.out.below BW9.out)).mono ?_; rintro e v11 ⟨cs', rfl, hM, hb⟩
          obtain ⟨A9, k9, rfl, hrow9⟩ := log_own hM
          simp only [] at hrow9 ⊢
          have HO11 := Lib.hid hrow9
          have ZB11 := Lib.hid (ZB9.out.below hb)
          have BW11 := Lib.hid (show Below w.heap.size w v11 from BW9.out.trans (hb.mono BW9.out.size))
          clear hM hb hrow9
          go_wp2_with (first | ((with_reducible show wpList _ _ _ ({ dst := _, op := Op.store 46 _ _, type := _, pos := _, after := _, guard := _ } :: _) _ _); refine wpList_store_row _ (w.heap.size + 1) 46 0 [.slice A9 segs.length k9, .int .i64 next, .int .i64 mark] [] [.slice none 0 0, .int .i64 0, .int .i64 0] [] _ rfl rfl agg_Log ZB11.out rfl rfl rfl (by simp [Value.oneCell']) ?_; intro v12 hzb hzg) | fail)
          rw [HRZ.out]
          have hO12 := ownsRow_keep (base' := w.heap.size) HO11.out (w' := v12) (fun k hk => ⟨by have h1 := (HO11.out.lt k hk).1; have h2 := HZ9.out; omega, hzg.block k (HO11.out.lt k hk).2 (fun e => by injection e with e; have h1 := (HO11.out.lt k hk).1; have h2 := HZ9.out; omega)⟩)
          exact bodyPost_cell2 rfl ⟨w.heap.size + 1, 0, none⟩ rfl [.slice A9 segs.length k9, .int .i64 next, .int .i64 mark] _ rfl agg_Log rfl (blk_cells hzb) rfl ⟨_, rfl, own_log hO12, Below.grown BW11.out hzg BW11.out.size (fun k hk => by injection hk with hk; omega)⟩

end Go.Proofs.Ytifdkjddiohahaa
