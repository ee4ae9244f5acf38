/-
  A log trimmed: spec.l6Trim. Conditions: as the contract names them.
-/
import Derived.Test.YtifdkjddiohahaaLogCp
namespace Go.Proofs.Ytifdkjddiohahaa
open Go.RowKit

def segCells : List SegD → List Value
  | [] => []
  | s :: r => .int .i64 s.first :: .string (bs s.text) :: segCells r
theorem segCells_length : ∀ xs : List SegD, (segCells xs).length = xs.length * 2
  | [] => rfl
  | s :: r => by rw [segCells, List.length_cons, List.length_cons, segCells_length r, List.length_cons]; omega
theorem rep_segs {B : Nat → Prop} {w : World} : ∀ {xs : List SegD} {cells : List Value}, Rep B w (cat SegD.c xs) cells → cells = segCells xs
  | [], _, h => by simp only [cat, Rep] at h; exact h
  | s :: r, _, h => by
    rw [cat_cons] at h
    obtain ⟨c1, c2, rfl, h1, h2⟩ := Rep.app.1 h
    rw [SegD.open h1, rep_segs h2]
    rfl
theorem own_segs (w : World) (base : Nat) : ∀ xs : List SegD, Own w base (cat SegD.c xs) (segCells xs) []
  | [] => Own.nil.2 ⟨rfl, rfl⟩
  | s :: r => by
    rw [cat_cons]
    exact Own.app.2 ⟨[_, _], segCells r, [], [], rfl, rfl, SegD.shutO (x := s), own_segs w base r⟩
theorem own_log {w : World} {base : Nat} {xs : List SegD} {next mark : Int} {A : Option Addr} {c : Nat} (h : w.ownsRow base 90 2 (.slice A xs.length c) xs.length (segCells xs)) : Mine w base (LogD.c ⟨xs, next, mark⟩) [.slice A xs.length c, .int .i64 next, .int .i64 mark] :=
  ⟨_, nodup_own _, LogD.shutO (x := ⟨xs, next, mark⟩) (Own.sl1.2 ⟨_, [], (List.append_nil _).symm, by rw [cat_width SegD.width], h, own_segs w base xs⟩)⟩
theorem log_own {w : World} {base : Nat} {x : LogD} {cs : List Value} (h : Mine w base x.c cs) : ∃ A c, cs = [.slice A x.segs.length c, .int .i64 x.next, .int .i64 x.mark] ∧ w.ownsRow base 90 2 (.slice A x.segs.length c) x.segs.length (segCells x.segs) := by
  obtain ⟨F, _, ho⟩ := h
  obtain ⟨A0, k0, F0, rfl, rfl, s0⟩ := LogD.openO ho
  obtain ⟨cells, F1, _, _, hrow, hin⟩ := Own.sl1.1 s0
  obtain rfl := rep_segs hin.repAny
  exact ⟨A0, k0, rfl, hrow⟩
def trimS (mark : Int) : List SegD → List SegD
  | a :: b :: r => if b.first - 1 ≤ mark then trimS mark (b :: r) else a :: b :: r
  | l => l
theorem trimS_yes {mark : Int} {a b : SegD} {r : List SegD} (h : b.first - 1 ≤ mark) : trimS mark (a :: b :: r) = trimS mark (b :: r) := by rw [trimS, if_pos h]
theorem trimS_no {mark : Int} {a b : SegD} {r : List SegD} (h : ¬ b.first - 1 ≤ mark) : trimS mark (a :: b :: r) = a :: b :: r := by rw [trimS, if_neg h]
theorem trimS_short {mark : Int} : ∀ {xs : List SegD}, xs.length ≤ 1 → trimS mark xs = xs
  | [], _ => rfl
  | [_], _ => rfl
  | _ :: _ :: _, h => by simp at h
theorem own_cap {w : World} {base e size n c : Nat} {A : Option Addr} {xs : List Value} (h : w.ownsRow base e size (.slice A n c) n xs) : n ≤ c := by
  rcases h.2 with ⟨h1, h2⟩ | ⟨g, cap, cur, hv, _, _, hnc, _⟩
  · omega
  · injection hv with _ _ h3
    omega
theorem reads_tail {w : World} {base e n m c g : Nat} {u v : Value} {cells : List Value} (h : w.ownsRow base e 2 (.slice (some ⟨g, 0, none⟩) n c) n (u :: v :: cells)) (hn : n = m + 1) : Reads w 2 (some ⟨g, 2, none⟩) m cells := by
  have h1 := h.1
  refine ⟨by simp at h1; omega, fun _ => ⟨_, rfl, fun j x hx => ?_⟩⟩
  have := World.ownsRow.cells (g := g) h rfl (j + 2) x (by simpa using hx)
  rw [add_plain, Nat.zero_add] at this
  rw [add_plain, Nat.add_comm]
  exact this
def lenAt (w : World) (p : Addr) : Nat := match w.cell? p with | some (.slice _ n _) => n | _ => 0

set_option maxRecDepth 100000 in
set_option maxHeartbeats 2000000 in
theorem l6Trim_any (x : LogD) (cs : List Value) (w : World) (base : Nat) (hbase : base ≤ w.heap.size) (hn : x.segs.length ≤ 1048576) (hf : ∀ s ∈ x.segs, 1 ≤ s.first ∧ s.first ≤ 1000) (h : Mine w base x.c cs) :
    Calls Try.prog 89 #[.agg cs.toArray] w fun e w' => ∃ cs', e = .returned (.agg cs'.toArray) ∧ Mine w' base (LogD.c ⟨trimS x.mark x.segs, x.next, x.mark⟩) cs' ∧ Below w.heap.size w w' := by
  obtain ⟨A0, k0, rfl, hrow⟩ := log_own h
  obtain ⟨segs, next, mark⟩ := x
  simp only [] at hrow hn hf ⊢
  clear h
  obtain ⟨V, hV⟩ : ∃ V, V = trimS mark segs := ⟨_, rfl⟩
  rw [← hV]
  have HV := Lib.hid hV; clear hV
  have HF := Lib.hid hf; clear hf
  have HO := Lib.hid hrow
  have hne : (Value.slice A0 segs.length k0).ownBlock ≠ some w.heap.size := fun e => by have := (hrow.lt _ e).2; omega
  have HNE := Lib.hid hne; clear hne hrow
  go_enter Try.func89, Try.ntmps89
  go_wp2
  go_loopw [] (fun wr => ∃ (xs : List SegD) (A : Option Addr) (c : Nat), xs.length ≤ 1048576 ∧ trimS mark xs = V ∧ (∀ s ∈ xs, 1 ≤ s.first ∧ s.first ≤ 1000) ∧ wr.ownsRow base 90 2 (.slice A xs.length c) xs.length (segCells xs) ∧ (Value.slice A xs.length c).ownBlock ≠ some w.heap.size ∧ (Value.slice A xs.length c).ownBlock ≠ some (w.heap.size + 1) ∧ Blk wr w.heap.size 46 [.slice A xs.length c, .int .i64 next, .int .i64 mark].toArray ∧ Blk wr (w.heap.size + 1) 46 [.slice none 0 0, .int .i64 0, .int .i64 0].toArray ∧ Below w.heap.size w wr ∧ w.heap.size + 1 + 1 ≤ wr.heap.size) (fun wr => lenAt wr ⟨w.heap.size, 0, none⟩)
  case atStart => exact ⟨segs, A0, k0, hn, HV.out.symm, HF.out, (HO.out.alloc _).alloc _, HNE.out, fun e => by have := (HO.out.lt _ e).2; omega, blk2_0 _ _ _ _, blk2_1 _ _ _ _, (by repeat' (first | with_reducible exact Below.refl _ _ | with_reducible exact BW.out | with_reducible refine Below.setCell ?_ ?_ _ | with_reducible refine Below.alloc ?_ ?_ _ | with_reducible refine Below.drew ?_ | (simp; done) | (simp; omega) | omega)), by simp⟩
  case round =>
    obtain ⟨xs, A, c, hn1, htr, hf, hrow, hne, hne1, hsb, hzb, hbw, hsz⟩ := hrel
    clear HO HNE HF
    have HF := Lib.hid hf; clear hf
    have HO := Lib.hid hrow; clear hrow
    have HNE := Lib.hid hne; clear hne
    have HNE1 := Lib.hid hne1; clear hne1
    have HT := Lib.hid htr; clear htr
    have SB := Lib.hid hsb; clear hsb
    have ZB := Lib.hid hzb; clear hzb
    have BW := Lib.hid hbw; clear hbw
    have HSZ := Lib.hid hsz; clear hsz
    have hs0 : World.cell? wr ⟨w.heap.size, 0, none⟩ = some (.slice A xs.length c) := blk_cell0 (L := [.slice A xs.length c, .int .i64 next, .int .i64 mark]) SB.out 0 rfl
    have hs2 : World.cell? wr ⟨w.heap.size, 2, none⟩ = some (.int .i64 mark) := blk_cell0 (L := [.slice A xs.length c, .int .i64 next, .int .i64 mark]) SB.out 2 rfl
    by_cases hlen : xs.length ≤ 1
    · have hx := HT.out
      rw [trimS_short hlen] at hx
      subst hx
      have hd : decide ((1 : Int) < (xs.length : Int)) = false := by simp only [decide_eq_false_iff_not]; omega
      clear HT
      go_wp2
      refine wp_region_x 15 [0, 1, 2, 3, 4, 5, 6, 7, 8, 9, 10, 11, 12, 13, 14] (by kernel_rfl) (by kernel_rfl) ?_
      iterate 5 (refine wpX_quiet rfl (by kernel_rfl) rfl ?_; go_wp2; refine ⟨rfl, ?_⟩)
      (iterate 6 (refine wpX_skip2 rfl rfl (by kernel_rfl) ?_)); simp only [List.setIfInBounds_toArray, List.set_cons_succ, List.set_cons_zero]; (iterate 3 (refine wpX_skip2 rfl rfl (by kernel_rfl) ?_)); simp only [List.setIfInBounds_toArray, List.set_cons_succ, List.set_cons_zero]
      iterate 1 (refine wpX_quiet rfl (by kernel_rfl) rfl ?_; go_wp2; refine ⟨rfl, ?_⟩)
      refine wpX_nil ?_; simp only [List.drop_succ_cons, List.drop_zero]
      go_wp2_with (first
        | ((with_reducible show wpList _ _ _ ({ dst := _, op := Op.load 46 _, type := _, pos := _, after := _, guard := _ } :: _) _ _); refine wpList_load_row _ ⟨w.heap.size, 0, none⟩ rfl [.slice A xs.length c, .int .i64 next, .int .i64 mark] agg_Log rfl (blk_cells SB.out.drew) ?_)
        | ((with_reducible show wpList _ _ _ ({ dst := _, op := Op.store 46 _ _, type := _, pos := _, after := _, guard := _ } :: _) _ _); refine wpList_store_row _ (w.heap.size + 1) 46 0 [.slice A xs.length c, .int .i64 next, .int .i64 mark] [] [.slice none 0 0, .int .i64 0, .int .i64 0] [] _ rfl rfl agg_Log ZB.out.drew rfl rfl rfl (by simp [Value.oneCell']) ?_; intro w3 hsb hsg)
        | fail)
      refine bodyPost_cell rfl ⟨w.heap.size + 1, 0, none⟩ rfl [.slice A xs.length c, .int .i64 next, .int .i64 mark] agg_Log rfl (blk_cells hsb) rfl ⟨_, rfl, own_log (HO.out.drew.kept hsg (.inr HNE1.out)), ?_⟩
      exact Below.grown BW.out.drew hsg BW.out.size (fun k hk => by injection hk with hk; omega)
    · obtain ⟨a, b, r, rfl⟩ : ∃ a b r, xs = a :: b :: r := by
        match xs, hlen with
        | [], h => exact absurd (by simp) h
        | [_], h => exact absurd (by simp) h
        | a :: b :: r, _ => exact ⟨a, b, r, rfl⟩
      clear hlen
      obtain ⟨g, c', he, hg1, hg2⟩ := own_form HO.out (by simp)
      injection he with he _ hec
      subst he hec
      have hcap : r.length + 1 + 1 ≤ c := own_cap HO.out
      have hc2 : World.cell? wr ⟨g, 2, none⟩ = some (.int .i64 b.first) := World.ownsRow.cells (g := g) HO.out rfl 2 _ rfl
      have hfb := HF.out b (by simp)
      obtain ⟨hfb1, hfb2⟩ := hfb
      have hm : (a :: b :: r).length = r.length + 1 + 1 := rfl
      rw [hm] at hs0
      by_cases hcond : b.first - 1 ≤ mark
      · have hx := HT.out
        rw [trimS_yes hcond] at hx
        have HT2 := Lib.hid hx; clear hx HT
        go_wp2
        refine wp_region_x 15 [0, 1, 2, 3, 4, 5, 6, 7, 8, 9, 10, 11, 12, 13, 14] (by kernel_rfl) (by kernel_rfl) ?_
        iterate 15 (refine wpX_quiet rfl (by kernel_rfl) rfl ?_; go_wp2; refine ⟨rfl, ?_⟩)
        refine wpX_nil ?_; simp only [List.drop_succ_cons, List.drop_zero]
        have hs1 : World.cell? (wr.alloc (.cells #[] 90)) ⟨w.heap.size, 0, none⟩ = some (.slice (some ⟨g, 0, none⟩) (r.length + 1 + 1) c) := blk_cell0 (L := [.slice (some ⟨g, 0, none⟩) (r.length + 1 + 1) c, .int .i64 next, .int .i64 mark]) (SB.out.alloc _) 0 rfl
        have HO0 := Lib.hid (World.ownsRow_made (base := base) (size := 2) (e := 90) wr.drew #[] 0 (show base ≤ wr.heap.size from Nat.le_of_lt (Nat.lt_of_le_of_lt hg1 hg2)) (by simp [maxLen]) rfl)
        have HRD := Lib.hid (reads_tail ((HO.out.drew).alloc (.cells #[] 90)) hm)
        have hbl : base ≤ wr.heap.size := by omega
        have hn2 : r.length + 1 ≤ 1048576 := by simp at hn1; omega
        clear HO HNE HNE1 hs0 hc2
        go_wp2_with (first
          | (at_builtin; go_must (refine wpList_app E_Seg _ rfl (.tmp 18) (.tmp 21) rfl base _ 0 [] rfl HO0.out _ _ _ (segCells (b :: r)) rfl HRD.out (own_segs wr 0 (b :: r)).one (by omega) (by simp; omega) ?_; intro vv w2 hown hg hat; have hb2 : Below w.heap.size w w2 := Below.grown (BW.out.drew.alloc BW.out.size _) hg (Nat.le_trans BW.out.size (by simp)) (fun k hk => by injection hk with hk; have h3 : k = wr.heap.size := hk.symm; have := HSZ.out; omega); have hb3 : wr.heap.size + 1 ≤ w2.heap.size := Nat.le_trans (by simp) hg.size; have hsb : Blk w2 w.heap.size 46 [.slice (some ⟨g, 0, none⟩) (a :: b :: r).length c, .int .i64 next, .int .i64 mark].toArray := Blk.keep (SB.out.drew.alloc (.cells #[] 90)) (hg.block _ (SB.out.drew.alloc _).lt (fun e => by injection e with e; have h3 : w.heap.size = wr.heap.size := e; have := HSZ.out; omega)); have hz : Blk w2 (w.heap.size + 1) 46 [.slice none 0 0, .int .i64 0, .int .i64 0].toArray := Blk.keep (ZB.out.drew.alloc (.cells #[] 90)) (hg.block _ (ZB.out.drew.alloc _).lt (fun e => by injection e with e; have h3 : w.heap.size + 1 = wr.heap.size := e; have := HSZ.out; omega)); rw [Nat.zero_add, List.nil_append] at hown; obtain ⟨Av, cv, rfl, _⟩ := SlR.of_own hown; have hq0 : w2.cell? ⟨w.heap.size, 0, none⟩ = some (.slice (some ⟨g, 0, none⟩) (a :: b :: r).length c) := blk_cell0 (L := [.slice (some ⟨g, 0, none⟩) (a :: b :: r).length c, .int .i64 next, .int .i64 mark]) hsb 0 rfl; have hfz : w2.frozen? ⟨w.heap.size, 0, none⟩ = false := hsb.frozen 0; have HS := Lib.hid (blk_put0 hsb 0 (.slice Av (r.length + 1) cv)); have HZ := Lib.hid (Blk.setOther hz (a := ⟨w.heap.size, 0, none⟩) (by simp) (.slice Av (r.length + 1) cv)); have HB2 := Lib.hid hb2; have HB3 := Lib.hid hb3; have HAT := Lib.hid hat; have HO := Lib.hid hown; clear hb2 hb3 hsb hz hat hown hg))
          | fail)
        have hbb : ∀ k, (Value.slice Av (r.length + 1) cv).ownBlock = some k → w.heap.size + 1 < k := fun k hk => by
          have h4 := HSZ.out
          rcases HAT.out with h | h
          · have e : some k = some wr.heap.size := hk.symm.trans h
            injection e with e
            omega
          · have e := hk.symm.trans h
            injection e with e
            have e2 : (World.heap (wr.alloc (.cells #[] 90)).drew).size = wr.heap.size + 1 := by first | (simp; done) | (simp; rfl) | rfl
            rw [e2] at e
            omega
        have hown3 : (w2.setCell ⟨w.heap.size, 0, none⟩ (.slice Av (r.length + 1) cv)).ownsRow base 90 2 (.slice Av (r.length + 1) cv) (r.length + 1) (segCells (b :: r)) := ownsRow_keep HO.out (fun k hk => ⟨(HO.out.lt k hk).1, Below.heap_setCell _ _ _ _ (fun e => by have h1 := hbb k hk; have e2 : k = w.heap.size := e; omega)⟩)
        refine ⟨⟨b :: r, Av, cv, hn2, HT2.out, fun s hs => HF.out s (List.mem_cons_of_mem _ hs), hown3, fun e => by have := hbb _ e; omega, fun e => by have := hbb _ e; omega, HS.out, HZ.out, Below.setCell HB2.out (Nat.le_refl _) _, by rw [setCell_size]; have := HSZ.out; have := HB3.out; omega⟩, ?_⟩
        have h1 : lenAt (w2.setCell ⟨w.heap.size, 0, none⟩ (.slice Av (r.length + 1) cv)) ⟨w.heap.size, 0, none⟩ = r.length + 1 := by unfold lenAt; rw [blk_cell0 (L := [.slice Av (r.length + 1) cv, .int .i64 next, .int .i64 mark]) HS.out 0 rfl]
        have h2 : lenAt wr ⟨w.heap.size, 0, none⟩ = r.length + 1 + 1 := by unfold lenAt; rw [blk_cell0 (L := [.slice (some ⟨g, 0, none⟩) (r.length + 1 + 1) c, .int .i64 next, .int .i64 mark]) SB.out 0 rfl]
        omega
      · have hx := HT.out
        rw [trimS_no hcond] at hx
        subst hx
        go_wp2
        refine wp_region_x 15 [0, 1, 2, 3, 4, 5, 6, 7, 8, 9, 10, 11, 12, 13, 14] (by kernel_rfl) (by kernel_rfl) ?_
        iterate 15 (refine wpX_quiet rfl (by kernel_rfl) rfl ?_; go_wp2; refine ⟨rfl, ?_⟩)
        refine wpX_nil ?_; simp only [List.drop_succ_cons, List.drop_zero]
        go_wp2_with (first
          | ((with_reducible show wpList _ _ _ ({ dst := _, op := Op.load 46 _, type := _, pos := _, after := _, guard := _ } :: _) _ _); refine wpList_load_row _ ⟨w.heap.size, 0, none⟩ rfl [.slice (some ⟨g, 0, none⟩) (a :: b :: r).length c, .int .i64 next, .int .i64 mark] agg_Log rfl (blk_cells SB.out.drew) ?_)
          | ((with_reducible show wpList _ _ _ ({ dst := _, op := Op.store 46 _ _, type := _, pos := _, after := _, guard := _ } :: _) _ _); refine wpList_store_row _ (w.heap.size + 1) 46 0 [.slice (some ⟨g, 0, none⟩) (a :: b :: r).length c, .int .i64 next, .int .i64 mark] [] [.slice none 0 0, .int .i64 0, .int .i64 0] [] _ rfl rfl agg_Log ZB.out.drew rfl rfl rfl (by simp [Value.oneCell']) ?_; intro w3 hsb hsg)
          | fail)
        refine bodyPost_cell rfl ⟨w.heap.size + 1, 0, none⟩ rfl [.slice (some ⟨g, 0, none⟩) (a :: b :: r).length c, .int .i64 next, .int .i64 mark] agg_Log rfl (blk_cells hsb) rfl ⟨_, rfl, own_log (HO.out.drew.kept hsg (.inr HNE1.out)), ?_⟩
        exact Below.grown BW.out.drew hsg BW.out.size (fun k hk => by injection hk with hk; omega)

end Go.Proofs.Ytifdkjddiohahaa
