/-
  A log trimmed in place: impl's trimmed. Conditions: as the contract names them.
-/
import Derived.Test.YtifdkjddiohahaaLogTr
namespace Go.Proofs.Ytifdkjddiohahaa
open Go.RowKit
theorem grown_drew {a w : World} {r : Option Nat} (h : a.grownBy w r) : a.grownBy w.drew r := ⟨h.os, h.tape, h.output, h.size, h.block⟩

set_option maxRecDepth 100000 in
set_option maxHeartbeats 2000000 in
theorem trimmed_any (gl : Nat) (segs : List SegD) (next mark : Int) (A0 : Option Addr) (k0 : Nat) (w : World) (base : Nat) (hbase : base ≤ w.heap.size) (hn : segs.length ≤ 1048576) (hf : ∀ s ∈ segs, 1 ≤ s.first ∧ s.first ≤ 1000)
    (hrow : w.ownsRow base 90 2 (.slice A0 segs.length k0) segs.length (segCells segs)) (hne : (Value.slice A0 segs.length k0).ownBlock ≠ some gl) (hb : Blk w gl 46 [.slice A0 segs.length k0, .int .i64 next, .int .i64 mark].toArray) :
    Calls Try.prog 91 #[.pointer (some ⟨gl, 0, none⟩)] w fun e w' => e = .returned (.tuple #[]) ∧ ∃ A c, Blk w' gl 46 [.slice A (trimS mark segs).length c, .int .i64 next, .int .i64 mark].toArray ∧ w'.ownsRow base 90 2 (.slice A (trimS mark segs).length c) (trimS mark segs).length (segCells (trimS mark segs)) ∧ (Value.slice A (trimS mark segs).length c).ownBlock ≠ some gl ∧ w.grownBy w' (some gl) := by
  obtain ⟨V, hV⟩ : ∃ V, V = trimS mark segs := ⟨_, rfl⟩
  rw [← hV]
  have HV := Lib.hid hV; clear hV
  have HF := Lib.hid hf; clear hf
  have HO := Lib.hid hrow; clear hrow
  have HNE := Lib.hid hne; clear hne
  have SB := Lib.hid hb; clear hb
  go_enter Try.func91, Try.ntmps91
  go_wp2
  go_loopw [] (fun wr => ∃ (xs : List SegD) (A : Option Addr) (c : Nat), xs.length ≤ 1048576 ∧ trimS mark xs = V ∧ (∀ s ∈ xs, 1 ≤ s.first ∧ s.first ≤ 1000) ∧ wr.ownsRow base 90 2 (.slice A xs.length c) xs.length (segCells xs) ∧ (Value.slice A xs.length c).ownBlock ≠ some gl ∧ Blk wr gl 46 [.slice A xs.length c, .int .i64 next, .int .i64 mark].toArray ∧ w.grownBy wr (some gl)) (fun wr => lenAt wr ⟨gl, 0, none⟩)
  case atStart => exact ⟨segs, A0, k0, hn, HV.out.symm, HF.out, HO.out, HNE.out, SB.out, World.grownBy.refl _ _⟩
  case round =>
    obtain ⟨xs, A, c, hn1, htr, hf, hrow, hne, hsb, hgr⟩ := hrel
    clear HO HNE HF SB
    have HF := Lib.hid hf; clear hf
    have HO := Lib.hid hrow; clear hrow
    have HNE := Lib.hid hne; clear hne
    have HT := Lib.hid htr; clear htr
    have SB := Lib.hid hsb; clear hsb
    have HG := Lib.hid hgr; clear hgr
    have hs0 : World.cell? wr ⟨gl, 0, none⟩ = some (.slice A xs.length c) := blk_cell0 (L := [.slice A xs.length c, .int .i64 next, .int .i64 mark]) SB.out 0 rfl
    have hs2 : World.cell? wr ⟨gl, 2, none⟩ = some (.int .i64 mark) := blk_cell0 (L := [.slice A xs.length c, .int .i64 next, .int .i64 mark]) SB.out 2 rfl
    by_cases hlen : xs.length ≤ 1
    · have hx := HT.out
      rw [trimS_short hlen] at hx
      subst hx
      have hd : decide ((1 : Int) < (xs.length : Int)) = false := by simp only [decide_eq_false_iff_not]; omega
      clear HT
      go_wp2
      refine wp_region_x 21 [0, 1, 2, 3, 4, 5, 6, 7, 8, 9, 10, 11, 12, 13, 14, 15, 16, 17, 18, 19, 20] (by kernel_rfl) (by kernel_rfl) ?_
      iterate 7 (refine wpX_quiet rfl (by kernel_rfl) rfl ?_; go_wp2; refine ⟨rfl, ?_⟩)
      (iterate 6 (refine wpX_skip2 rfl rfl (by kernel_rfl) ?_)); simp only [List.setIfInBounds_toArray, List.set_cons_succ, List.set_cons_zero]; (iterate 6 (refine wpX_skip2 rfl rfl (by kernel_rfl) ?_)); simp only [List.setIfInBounds_toArray, List.set_cons_succ, List.set_cons_zero]; (iterate 1 (refine wpX_skip2 rfl rfl (by kernel_rfl) ?_)); simp only [List.setIfInBounds_toArray, List.set_cons_succ, List.set_cons_zero]
      iterate 1 (refine wpX_quiet rfl (by kernel_rfl) rfl ?_; go_wp2; refine ⟨rfl, ?_⟩)
      refine wpX_nil ?_; simp only [List.drop_succ_cons, List.drop_zero]
      go_wp2
      go_end0
      exact ⟨rfl, _, _, SB.out.drew, HO.out.drew, HNE.out, grown_drew HG.out⟩
    · obtain ⟨a, b, r, rfl⟩ : ∃ a b r, xs = a :: b :: r := by
        match xs, hlen with
        | [], h => exact absurd (by simp) h
        | [_], h => exact absurd (by simp) h
        | a :: b :: r, _ => exact ⟨a, b, r, rfl⟩
      clear hlen
      obtain ⟨g, c', he, hg1, hg2⟩ := own_form HO.out (by simp)
      injection he with he _ hec
      subst he hec
      have hcap : r.length + 1 + 1 ≤ c := own_cap HO.out
      have hc2 : World.cell? wr ⟨g, 2, none⟩ = some (.int .i64 b.first) := World.ownsRow.cells (g := g) HO.out rfl 2 _ rfl
      have hfb := HF.out b (by simp)
      obtain ⟨hfb1, hfb2⟩ := hfb
      have hm : (a :: b :: r).length = r.length + 1 + 1 := rfl
      rw [hm] at hs0
      by_cases hcond : b.first - 1 ≤ mark
      · have hx := HT.out
        rw [trimS_yes hcond] at hx
        have HT2 := Lib.hid hx; clear hx HT
        go_wp2
        refine wp_region_x 21 [0, 1, 2, 3, 4, 5, 6, 7, 8, 9, 10, 11, 12, 13, 14, 15, 16, 17, 18, 19, 20] (by kernel_rfl) (by kernel_rfl) ?_
        iterate 21 (refine wpX_quiet rfl (by kernel_rfl) rfl ?_; go_wp2; refine ⟨rfl, ?_⟩)
        refine wpX_nil ?_; simp only [List.drop_succ_cons, List.drop_zero]
        have HRD := Lib.hid (reads_tail HO.out.drew hm)
        have hn2 : r.length + 1 ≤ 1048576 := by simp at hn1; omega
        have hbl : base ≤ wr.heap.size := by omega
        clear hc2
        go_wp2_with (first
          | (at_builtin; go_must (refine wpList_app E_Seg _ rfl _ (.tmp 28) rfl base (.slice none 0 0) 0 [] rfl ⟨by simp, .inl ⟨rfl, rfl⟩⟩ _ _ _ (segCells (b :: r)) rfl HRD.out (own_segs wr 0 (b :: r)).one (by omega) (by first | exact hbl | (simp; omega)) ?_; intro vv w2 hown hg hat; have hsb : Blk w2 gl 46 [.slice (some ⟨g, 0, none⟩) (a :: b :: r).length c, .int .i64 next, .int .i64 mark].toArray := Blk.keep SB.out.drew (hg.block _ SB.out.lt (fun e => by cases e)); rw [Nat.zero_add, List.nil_append] at hown; obtain ⟨Av, cv, rfl, _⟩ := SlR.of_own hown; have hq0 : w2.cell? ⟨gl, 0, none⟩ = some (.slice (some ⟨g, 0, none⟩) (a :: b :: r).length c) := blk_cell0 (L := [.slice (some ⟨g, 0, none⟩) (a :: b :: r).length c, .int .i64 next, .int .i64 mark]) hsb 0 rfl; have hfz : w2.frozen? ⟨gl, 0, none⟩ = false := hsb.frozen 0; have HS := Lib.hid (blk_put0 hsb 0 (.slice Av (r.length + 1) cv)); have HG2 := Lib.hid hg; have HAT := Lib.hid hat; have HO2 := Lib.hid hown; clear hsb hat hown hg))
          | fail)
        have hgl := SB.out.lt
        have hbb : (Value.slice Av (r.length + 1) cv).ownBlock ≠ some gl := fun e => by
          rcases HAT.out with h | h
          · have e2 : (none : Option Nat) = some gl := h.symm.trans e
            cases e2
          · have e2 : some wr.heap.size = some gl := h.symm.trans e
            injection e2 with e2
            omega
        have hown3 : (w2.setCell ⟨gl, 0, none⟩ (.slice Av (r.length + 1) cv)).ownsRow base 90 2 (.slice Av (r.length + 1) cv) (r.length + 1) (segCells (b :: r)) := ownsRow_keep HO2.out (fun k hk => ⟨(HO2.out.lt k hk).1, Below.heap_setCell _ _ _ _ (fun e => hbb (by rw [hk]; exact congrArg some e))⟩)
        have hgr3 : w.grownBy (w2.setCell ⟨gl, 0, none⟩ (.slice Av (r.length + 1) cv)) (some gl) := only_setCell (grownBy_trans_new (grown_drew HG.out) HG2.out (fun k hk => by cases hk)) 0 _
        refine ⟨⟨b :: r, Av, cv, hn2, HT2.out, fun s hs => HF.out s (List.mem_cons_of_mem _ hs), hown3, hbb, HS.out, hgr3⟩, ?_⟩
        have h1 : lenAt (w2.setCell ⟨gl, 0, none⟩ (.slice Av (r.length + 1) cv)) ⟨gl, 0, none⟩ = r.length + 1 := by unfold lenAt; rw [blk_cell0 (L := [.slice Av (r.length + 1) cv, .int .i64 next, .int .i64 mark]) HS.out 0 rfl]
        have h2 : lenAt wr ⟨gl, 0, none⟩ = r.length + 1 + 1 := by unfold lenAt; rw [hs0]
        omega
      · have hx := HT.out
        rw [trimS_no hcond] at hx
        subst hx
        go_wp2
        refine wp_region_x 21 [0, 1, 2, 3, 4, 5, 6, 7, 8, 9, 10, 11, 12, 13, 14, 15, 16, 17, 18, 19, 20] (by kernel_rfl) (by kernel_rfl) ?_
        iterate 21 (refine wpX_quiet rfl (by kernel_rfl) rfl ?_; go_wp2; refine ⟨rfl, ?_⟩)
        refine wpX_nil ?_; simp only [List.drop_succ_cons, List.drop_zero]
        go_wp2
        go_end0
        exact ⟨rfl, _, _, SB.out.drew, HO.out.drew, HNE.out, grown_drew HG.out⟩

end Go.Proofs.Ytifdkjddiohahaa
