/-
  The component of an Id that is ready: spec.l12Part. Conditions: the Id is ready; right instances.
-/
import Derived.Test.YtoffelfcmfpooaaMxB
set_option linter.unusedVariables false
set_option linter.unusedSimpArgs false
namespace Go.Proofs.Ytoffelfcmfpooaa
open Go.RowKit

theorem cell_below {w w' : World} {a : Addr} {v : Value} (h : w.cell? a = some v) (hb : Below w.heap.size w w') : w'.cell? a = some v := by
  rw [World.cell?_of_block (hb.block _ (World.block_lt_of_cell? _ _ h))]; exact h
theorem own_take {w : World} {base e sz n m c : Nat} {g : Nat} {xs : List Value} (h : w.ownsRow base e sz (.slice (some ⟨g, 0, none⟩) n c) n xs) (hm : m ≤ n) : w.ownsRow base e sz (.slice (some ⟨g, 0, none⟩) m c) m (xs.take (m * sz)) := by
  have hl := h.1
  have hk : m * sz ≤ n * sz := Nat.mul_le_mul_right _ hm
  refine ⟨by rw [List.length_take, hl]; omega, ?_⟩
  rcases h.2 with ⟨h0, _⟩ | ⟨g', cap, cur, hv, hb, hh, hnc, hcm, hs, ht⟩
  · cases h0
  · injection hv with e1 _ e3
    injection e1 with e1
    injection e1 with e1
    subst e1 e3
    exact .inr ⟨g, c, cur, rfl, hb, hh, by omega, hcm, hs, by rw [← ht, List.take_take, Nat.min_eq_left hk]⟩
theorem own_some {w : World} {base e sz n : Nat} {v : Value} {xs : List Value} (h : w.ownsRow base e sz v n xs) {k : Nat} (hb : v.ownBlock = some k) : ∃ c, v = .slice (some ⟨k, 0, none⟩) n c ∧ n ≤ c := by
  rcases h.2 with ⟨rfl, _⟩ | ⟨g, cap, cur, rfl, _, _, hnc, _⟩
  · cases hb
  · simp only [Value.ownBlock] at hb
    injection hb with hb
    subst hb
    exact ⟨cap, rfl, hnc⟩
theorem own_some0 {w : World} {base e sz n : Nat} {v : Value} {xs : List Value} (h : w.ownsRow base e sz v n xs) (h0 : 0 < n) : ∃ g c, v = .slice (some ⟨g, 0, none⟩) n c ∧ n ≤ c ∧ base ≤ g := by
  rcases h.2 with ⟨_, h1⟩ | ⟨g, cap, cur, hv, hb, _, hnc, _⟩
  · omega
  · exact ⟨g, cap, hv, hnc, hb⟩
theorem ids_one : ∀ (l : List IdD), ∀ u ∈ idCells l, u.oneCell' = true
  | [], u, h => by cases h
  | x :: l, u, h => by
    simp only [idCells, List.mem_cons] at h
    rcases h with rfl | rfl | h
    · rfl
    · rfl
    · exact ids_one l u h
theorem seq_at {xs : List InstD} (hok : instsOkB xs = true) {x : IdD} {j : Nat} (hj : j < xs.length) (hx : xs[j].id = x) : seqI xs x = xs[j].seq := by
  subst hx
  unfold seqI
  rw [fInstAt_at hok j hj]
theorem reads_id {w : World} {A : Option Addr} {d : List IdD} {n : Nat} (h : Reads w 2 A n (idCells d)) (hn : n = d.length) (j : Nat) (hj : j < d.length) : ∃ ad, A = some ad ∧ ∀ f u, [Value.int .i64 d[j].rep, .int .i64 d[j].slot][f]? = some u → w.cell? ((ad.add (j * 2)).add f) = some u := by
  obtain ⟨ad, e, hc⟩ := h.2 (by omega)
  refine ⟨ad, e, fun f u hu => ?_⟩
  rw [add_of_add]
  refine hc _ _ ?_
  have hd : d = d.take j ++ (d[j] :: d.drop (j + 1)) := by rw [← List.drop_eq_getElem_cons hj, List.take_append_drop]
  have hl : (idCells (d.take j)).length = j * 2 := by rw [idCells_length, List.length_take, Nat.min_eq_left (Nat.le_of_lt hj)]
  have he : idCells d = idCells (d.take j) ++ (.int .i64 d[j].rep :: .int .i64 d[j].slot :: idCells (d.drop (j + 1))) := by
    conv => lhs; rw [hd, idCells_app]
    rfl
  rw [he, List.getElem?_append_right (by omega), hl, Nat.add_sub_cancel_left]
  match f, hu with
  | 0, hu => exact hu
  | 1, hu => exact hu
  | f + 2, hu => simp at hu

set_option maxRecDepth 100000 in
set_option maxHeartbeats 8000000 in
theorem l12Part_any (xs : List InstD) (id : IdD) (A : Option Addr) (n k : Nat) (cs : List Value) (w : World) (hn : n = xs.length) (hwt : n ≤ 1048576) (hok : instsOkB xs = true) (hrd : rdyB xs id = true) (h : Rep anyB w (.sl 40 16 n (cat InstD.c xs) .nil) [.slice A n k]) (h' : Rep anyB w id.c cs) :
    Calls Try.prog 51 #[.slice A n k, .agg cs.toArray] w fun e w' => ∃ g m c2, e = .returned (.slice (some ⟨g, 0, none⟩) m c2) ∧ m = (partF xs id).length ∧ w'.ownsRow w.heap.size 36 2 (.slice (some ⟨g, 0, none⟩) m c2) m (idCells (partF xs id)) ∧ Below w.heap.size w w' := by
  have hid := h'
  obtain rfl := IdD.open h'
  have HFI := Lib.hid (fun y cs W h h' => l12Find_at xs y A n k cs W hn hwt hok h h')
  have HRE := Lib.hid (fun y cs W h h' => l12Reach_any xs y A n k cs W hn hwt hok h h')
  have HRC := Lib.hid (rdy_com hrd)
  have HLN := Lib.hid (fun x => reach_len hok x)
  have HSEQ := Lib.hid (fun y j hj hy => @seq_at xs hok y j hj hy)
  have hn18 := insts_len18 hok
  have hR : partF xs id = partFrom xs id [] ((idsOf xs).drop 0) := rfl
  generalize partF xs id = R at *
  have HRR := Lib.hid hR; clear hR
  have HX := Lib.hid hid; clear hid h'
  obtain ⟨ir, is⟩ := id
  simp only [] at HX HRC HRR ⊢
  have HR := Lib.hid h; clear h
  have HN := Lib.hid hn
  have hnn : n ≤ 18 := by omega
  clear hn hok hrd hn18
  have SB := Lib.hid (blk_new w #[.int .i64 ir, .int .i64 is] 36)
  go_enter Try.func51, Try.ntmps51
  go_wp2_with (first | ((with_reducible show wpList _ _ _ ({ dst := _, op := Op.load 36 _, type := _, pos := _, after := _, guard := _ } :: _) _ _); refine wpList_load_row _ ⟨w.heap.size, 0, none⟩ rfl [.int .i64 ir, .int .i64 is] agg_Id rfl (blk_cells (SB.out.alloc _)) ?_) | fail)
  have own0 : ((w.alloc (.cells #[.int .i64 ir, .int .i64 is] 36)).alloc (.cells #[] 36)).ownsRow (w.heap.size + 1) 36 2 (.slice (some ⟨w.heap.size + 1, 0, none⟩) 0 0) 0 (idCells []) := own_nilAt _ _ _ _ _ (by simp) (by simp)
  have R0 := Lib.hid own0; clear own0
  refine (HRE.out ⟨ir, is⟩ _ _ (HR.out.below (by repeat' (first | with_reducible exact Below.refl _ _ | with_reducible exact BW.out | with_reducible refine Below.setCell ?_ ?_ _ | with_reducible refine Below.alloc ?_ ?_ _ | with_reducible refine Below.drew ?_ | (simp; done) | (simp; omega) | omega))) (HX.out.below (by repeat' (first | with_reducible exact Below.refl _ _ | with_reducible exact BW.out | with_reducible refine Below.setCell ?_ ?_ _ | with_reducible refine Below.alloc ?_ ?_ _ | with_reducible refine Below.drew ?_ | (simp; done) | (simp; omega) | omega)))).mono ?_; rintro e w1 ⟨A1, m1, c1, rfl, hm1, hown1, hb⟩
  have hm18 : m1 ≤ 18 := by rw [hm1]; exact HLN.out ⟨ir, is⟩
  have SB1 := Lib.hid ((SB.out.alloc _).below hb)
  have R1 := Lib.hid (R0.out.keptBelowJ hb)
  have BW := Lib.hid (show Below w.heap.size w w1 from Below.trans (by repeat' (first | with_reducible exact Below.refl _ _ | with_reducible exact BW.out | with_reducible refine Below.setCell ?_ ?_ _ | with_reducible refine Below.alloc ?_ ?_ _ | with_reducible refine Below.drew ?_ | (simp; done) | (simp; omega) | omega)) (hb.mono (by first | (simp; done) | (simp; omega) | omega)))
  have HM1 := Lib.hid hm1
  have MO := Lib.hid (ownsRow_keep (base' := w.heap.size) hown1 (w' := w1) (fun b hb2 => ⟨Nat.le_trans (by simp <;> omega) (hown1.lt b hb2).1, rfl⟩))
  have MN := Lib.hid (show ∀ b, (Value.slice A1 m1 c1).ownBlock = some b → b ≠ w.heap.size + 1 ∧ b < w1.heap.size from fun b hb2 => ⟨by have h1 := (hown1.lt b hb2).1; simp at h1; omega, (hown1.lt b hb2).2⟩)
  have HZ := Lib.hid (show w.heap.size + 2 ≤ w1.heap.size from Nat.le_trans (by simp) hb.size)
  clear hb hm1 hown1 R0 SB
  have hl0 : (rchL xs ⟨ir, is⟩) = reachF (depsOf xs) ⟨ir, is⟩ := rfl
  rw [← hl0] at HM1 MO
  clear hl0
  go_wp2
  go_loopw [5, 7] (fun oo ii wr => ∃ (j q g c' : Nat) (acc : List IdD), j ≤ n ∧ ii = .int .i64 (j : Int) ∧ oo = .slice (some ⟨g, 0, none⟩) q c' ∧ q = acc.length ∧ q ≤ j ∧ partFrom xs ⟨ir, is⟩ acc ((idsOf xs).drop j) = R ∧ (∀ y ∈ acc, comB xs y = true) ∧ wr.ownsRow (w.heap.size + 1) 36 2 (.slice (some ⟨g, 0, none⟩) q c') q (idCells acc) ∧ Blk wr w.heap.size 36 #[.int .i64 ir, .int .i64 is] ∧ wr.ownsRow w.heap.size 36 2 (.slice A1 m1 c1) m1 (idCells (rchL xs ⟨ir, is⟩)) ∧ (∀ b, (Value.slice A1 m1 c1).ownBlock = some b → b ≠ g) ∧ Below w.heap.size w wr) (fun _ ii _ => n - (intOf ii).toNat)
  case atStart => exact ⟨0, 0, _, _, [], Nat.zero_le _, rfl, rfl, rfl, Nat.le_refl _, HRR.out.symm, by simp, R1.out, SB1.out, MO.out, fun b hb => (MN.out b hb).1, BW.out⟩
  case round =>
    obtain ⟨j, q, g, c', acc, hj, rfl, rfl, hq, hqj, hT, hcom, hown, hsb, hmr, hmn, hbel⟩ := hrel
    clear SB1 R1 BW MO HRR MN
    have HQ := Lib.hid hq; clear hq
    have HC := Lib.hid hcom; clear hcom
    have HO := Lib.hid hown; clear hown
    have SB := Lib.hid hsb; clear hsb
    have MO := Lib.hid hmr; clear hmr
    have MN := Lib.hid hmn; clear hmn
    have BW := Lib.hid hbel; clear hbel
    have HWR := Lib.hid SB.out.lt
    by_cases hlt : j < n
    · have hjx : j < xs.length := by have := HN.out; omega
      obtain ⟨ad, ci, rfl, _, _, hrc, hl, hc⟩ := (HR.out.below BW.out).elem InstD.width j hjx HN.out
      have hcid := id_cells hrc hc
      obtain ⟨A8, k8, A9, k9, rfl, _⟩ := InstD.open hrc
      have h13 : wr.cell? ⟨(ad.add (j * 16)).block, (ad.add (j * 16)).off + 13, none⟩ = some (.int .i64 xs[j].seq) := hc 13 _ rfl
      have hdy : (idsOf xs).drop j = xs[j].id :: (idsOf xs).drop (j + 1) := by
        have hl : j < (idsOf xs).length := by unfold idsOf; rw [List.length_map]; exact hjx
        rw [List.drop_eq_getElem_cons hl]
        congr 1
        exact List.getElem_map InstD.id
      rw [hdy, partFrom] at hT
      clear hdy
      have hsq := HSEQ.out xs[j].id j hjx rfl
      have hin : inPB xs ⟨ir, is⟩ xs[j].id = (decide (xs[j].id = ⟨ir, is⟩) || (hasB (rchL xs ⟨ir, is⟩) xs[j].id && hasB (rchL xs xs[j].id) ⟨ir, is⟩)) := by rw [hasB_dec, hasB_dec]; rfl
      rw [hin] at hT
      have HCJ := Lib.hid (show hasB (rchL xs ⟨ir, is⟩) xs[j].id = true → comB xs xs[j].id = true from fun hh => HRC.out.2 _ (by rw [hasB_dec] at hh; exact of_decide_eq_true hh))
      have HSQ := Lib.hid hsq; clear hsq hin
      have HCI := Lib.hid hcid; clear hcid
      have hadl := World.block_lt_of_cell? _ _ h13
      have H13 := Lib.hid h13; clear h13 hc hrc hl
      have HT := Lib.hid hT; clear hT
      generalize xs[j].id = y at *
      obtain ⟨yr, ys⟩ := y
      simp only [] at HCI
      generalize xs[j].seq = sq at *
      obtain ⟨gx, hgx⟩ : ∃ gx, gx = wr.heap.size := ⟨_, rfl⟩
      have HGX := Lib.hid hgx; clear hgx
      go_wp2_with (first
        | ((with_reducible show wpList _ _ _ ({ dst := _, op := Op.load 36 _, type := _, pos := _, after := _, guard := _ } :: _) _ _); refine wpList_load_row _ (ad.add (j * 16)) rfl [.int .i64 yr, .int .i64 ys] agg_Id rfl HCI.out ?_)
        | ((with_reducible show wpList _ _ _ ({ dst := _, op := Op.store 36 _ _, type := _, pos := _, after := _, guard := _ } :: _) _ _); go_must (refine wpList_store_row _ wr.heap.size 36 0 [.int .i64 yr, .int .i64 ys] [] [.int .i64 0, .int .i64 0] [] _ rfl rfl agg_Id (blk_new wr _ _) rfl rfl rfl (by intro u hu; simp at hu; rcases hu with rfl | rfl <;> rfl) ?_; intro v1 h4 g4; rw [← HGX.out] at h4 g4 ⊢; have XB := Lib.hid (show Blk v1 gx 36 [.int .i64 yr, .int .i64 ys].toArray by simpa using h4); have D1 := Lib.hid (show Below wr.heap.size wr v1 from Below.grown ((Below.refl _ _).alloc (Nat.le_refl _) _) g4 (by simp) (fun k hk => by injection hk with hk; have := HGX.out; omega)); clear h4 g4))
        | fail)
      have X := Lib.hid (HO.out.keptBelowJ D1.out); clear HO
      have HO := Lib.hid X.out; clear X
      have X := Lib.hid (SB.out.below D1.out); clear SB
      have SB := Lib.hid X.out; clear X
      have X := Lib.hid (MO.out.keptBelowJ D1.out); clear MO
      have MO := Lib.hid X.out; clear X
      have X := Lib.hid (BW.out.trans (Below.mono D1.out BW.out.size)); clear BW
      have BW := Lib.hid X.out; clear X
      have X := Lib.hid (cell_below H13.out D1.out); clear H13
      have H13 := Lib.hid X.out; clear X
      have HGL := Lib.hid (show gx < v1.heap.size ∧ w.heap.size < gx from ⟨XB.out.lt, by rw [HGX.out]; exact HWR.out⟩)
      by_cases e1 : yr = ir
      · obtain rfl : ir = yr := e1.symm
        by_cases e2 : ys = is
        · obtain rfl : is = ys := e2.symm
          have hT2 := HT.out
          simp only [decide_true, Bool.true_or, if_true] at hT2
          have HT2 := Lib.hid hT2; clear hT2 HT
          have HCY := Lib.hid HRC.out.1
          refine wp_region_g 17 (.one 0 (.one 1 (.act 2 (.one 3 (.one 4 (.one 5 (.one 6 (.one 7 (.one 8 (.one 9 (.one 10 (.one 12 (.one 11 (.one 13 (.one 14 (.one 15 (.one 16 .leaf))))))))))))))))) (by kernel_rfl) (by kernel_rfl) ?_
          have X := Lib.hid SB.out.drew; clear SB
          have SB := Lib.hid X.out; clear X
          have X := Lib.hid XB.out.drew; clear XB
          have XB := Lib.hid X.out; clear X
          have X := Lib.hid (MO.out.keptBelowJ (Below.refl _ _).drew); clear MO
          have MO := Lib.hid X.out; clear X
          have X := Lib.hid (BW.out.drew); clear BW
          have BW := Lib.hid X.out; clear X
          have X := Lib.hid (HO.out.keptBelowJ (Below.refl _ _).drew); clear HO
          have HO := Lib.hid X.out; clear X
          have X := Lib.hid (cell_below H13.out (Below.refl _ _).drew); clear H13
          have H13 := Lib.hid X.out; clear X
          refine wpG_quiet rfl (by kernel_rfl) rfl ?_; refine wpList_load_row_g _ (by first | rfl | kernel_rfl) ⟨gx, 0, none⟩ rfl [.int .i64 ir, .int .i64 is] agg_Id rfl (blk_cells XB.out) ?_; go_wp2; refine ⟨rfl, ?_⟩
          refine wpG_quiet rfl (by kernel_rfl) rfl ?_; refine wpList_load_row_g _ (by first | rfl | kernel_rfl) ⟨w.heap.size, 0, none⟩ rfl [.int .i64 ir, .int .i64 is] agg_Id rfl (blk_cells SB.out) ?_; go_wp2; refine ⟨rfl, ?_⟩
          refine wpG_act rfl ?_; go_wp2
          refine ⟨Ext.refl _, ?_⟩
          iterate 1 (refine wpG_quiet rfl (by kernel_rfl) rfl ?_; go_wp2; refine ⟨rfl, ?_⟩)
          iterate 6 (refine wpG_skip rfl rfl (by kernel_rfl) ?_; simp only [List.setIfInBounds_toArray, List.set_cons_succ, List.set_cons_zero])
          iterate 6 (refine wpG_skip rfl rfl (by kernel_rfl) ?_; simp only [List.setIfInBounds_toArray, List.set_cons_succ, List.set_cons_zero])
          iterate 1 (refine wpG_quiet rfl (by kernel_rfl) rfl ?_; go_wp2; refine ⟨rfl, ?_⟩)
          refine wpG_nil ?_; try simp only [List.drop_succ_cons, List.drop_zero]
          go_wp2
          go_loopw [9] (fun tt ws => ∃ m : Nat, m ≤ q ∧ tt = .int .i64 (m : Int) ∧ atF xs acc ⟨ir, is⟩ q = atF xs acc ⟨ir, is⟩ m ∧ Below (World.heap (v1.drew)).size (v1.drew) ws) (fun tt _ => (intOf tt).toNat)
          case atStart => exact ⟨q, Nat.le_refl _, rfl, rfl, Below.refl _ _⟩
          case round =>
            obtain ⟨m, hmq, rfl, hat, hbl⟩ := hrel
            have HAT := Lib.hid hat; clear hat
            have CW := Lib.hid hbl; clear hbl
            have X := Lib.hid (HO.out.keptBelowJ CW.out); clear HO
            have HO := Lib.hid X.out; clear X
            have X := Lib.hid (SB.out.below CW.out); clear SB
            have SB := Lib.hid X.out; clear X
            have X := Lib.hid (MO.out.keptBelowJ CW.out); clear MO
            have MO := Lib.hid X.out; clear X
            have X := Lib.hid (BW.out.trans (Below.mono CW.out BW.out.size)); clear BW
            have BW := Lib.hid X.out; clear X
            have X := Lib.hid (cell_below H13.out CW.out); clear H13
            have H13 := Lib.hid X.out; clear X
            have X := Lib.hid (XB.out.below CW.out); clear XB
            have XB := Lib.hid X.out; clear X
            by_cases hm0 : m = 0
            · subst hm0
              have HA := Lib.hid (show atF xs acc ⟨ir, is⟩ q = 0 from HAT.out); clear HAT
              go_wp2
              refine wp_region_x 21 [0, 1, 2, 3, 4, 5, 6, 7, 8, 9, 14, 15, 16, 17, 18, 10, 11, 12, 13, 19, 20] (by kernel_rfl) (by kernel_rfl) ?_
              have X := Lib.hid SB.out.drew; clear SB
              have SB := Lib.hid X.out; clear X
              have X := Lib.hid XB.out.drew; clear XB
              have XB := Lib.hid X.out; clear X
              have X := Lib.hid (MO.out.keptBelowJ (Below.refl _ _).drew); clear MO
              have MO := Lib.hid X.out; clear X
              have X := Lib.hid (BW.out.drew); clear BW
              have BW := Lib.hid X.out; clear X
              have X := Lib.hid (HO.out.keptBelowJ (Below.refl _ _).drew); clear HO
              have HO := Lib.hid X.out; clear X
              have X := Lib.hid (cell_below H13.out (Below.refl _ _).drew); clear H13
              have H13 := Lib.hid X.out; clear X
              iterate 3 (refine wpX_quiet rfl (by kernel_rfl) rfl ?_; go_wp2; refine ⟨rfl, ?_⟩)
              (iterate 6 (refine wpX_skip2 rfl rfl (by kernel_rfl) ?_)); simp only [List.setIfInBounds_toArray, List.set_cons_succ, List.set_cons_zero]; (iterate 6 (refine wpX_skip2 rfl rfl (by kernel_rfl) ?_)); simp only [List.setIfInBounds_toArray, List.set_cons_succ, List.set_cons_zero]; (iterate 5 (refine wpX_skip2 rfl rfl (by kernel_rfl) ?_)); simp only [List.setIfInBounds_toArray, List.set_cons_succ, List.set_cons_zero]
              iterate 1 (refine wpX_quiet rfl (by kernel_rfl) rfl ?_; go_wp2; refine ⟨rfl, ?_⟩)
              refine wpX_nil ?_; try simp only [List.drop_succ_cons, List.drop_zero]
              have hatq : 0 ≤ q := by omega
              have hT3 := HT2.out
              rw [insP, ← HQ.out, HA.out] at hT3
              have HT3 := Lib.hid hT3; clear hT3
              have hdr := idCells_drop acc 0
              have hqc : q ≤ c' := (own_some HO.out rfl).elim fun c2 h => by have := h.1; injection this with _ _ e; omega
              have HRD := Lib.hid (show Reads _ 2 (some ((⟨g, 0, none⟩ : Addr).add (0 * 2))) (q - 0) (idCells (acc.drop 0)) from by rw [← hdr]; exact reads_drop (Reads.of_own (HO.out.alloc (.cells #[] 36))) hatq); clear hdr
              go_wp2_with (first | (at_builtin; go_must (refine wpList_app E_Id _ rfl (.tmp 68) (.tmp 71) rfl (w.heap.size + 1) _ 0 [] rfl (own_nilAt _ _ _ _ _ rfl (by have h2 := (HO.out.lt g rfl); exact Nat.le_of_lt (Nat.lt_of_le_of_lt h2.1 h2.2))) _ _ _ _ rfl HRD.out (ids_one _) (by omega) (by have h3 := (HO.out.lt g rfl).1; have h2 := (HO.out.lt g rfl).2; simp at h2 ⊢; omega) ?_; intro v6 w6 hown6 hg6 hat6; have D6 := Lib.hid (show Below (World.heap (World.drew wr)).size (World.drew wr) w6 from Below.grown (show Below (World.heap (World.drew wr)).size (World.drew wr) (World.alloc (World.drew wr) (.cells #[] 36)) from (Below.refl _ _).alloc (Nat.le_refl _) _) hg6 (by simp) (fun k hk => by have hk2 : (Value.slice (some ⟨(World.heap (World.drew wr)).size, 0, none⟩) 0 0).ownBlock = some k := hk; simp [Value.ownBlock] at hk2; simp; omega)); have O6 := Lib.hid hown6; have T6 := Lib.hid (show (∃ k, v6.ownBlock = some k) from hat6.elim (fun h => ⟨_, h⟩) (fun h => ⟨_, h⟩)); have F6 := Lib.hid (show ∀ k, v6.ownBlock = some k → g < k from fun k hk => by have h3 := (HO.out.lt g rfl).2; have hat7 : v6.ownBlock = (Value.slice (some ⟨(World.heap (World.drew wr)).size, 0, none⟩) 0 0).ownBlock ∨ v6.ownBlock = some (World.heap (World.alloc (World.drew wr) (.cells #[] 36))).size := hat6; rcases hat7 with h | h <;> (rw [h] at hk; simp [Value.ownBlock] at hk h3; omega)); clear hown6 hg6 hat6)) | fail)
              clear HRD
              have X := Lib.hid (HO.out.keptBelowJ D6.out); clear HO
              have HO := Lib.hid X.out; clear X
              have X := Lib.hid (SB.out.below D6.out); clear SB
              have SB := Lib.hid X.out; clear X
              have X := Lib.hid (MO.out.keptBelowJ D6.out); clear MO
              have MO := Lib.hid X.out; clear X
              have X := Lib.hid (BW.out.trans (Below.mono D6.out BW.out.size)); clear BW
              have BW := Lib.hid X.out; clear X
              have X := Lib.hid (cell_below H13.out D6.out); clear H13
              have H13 := Lib.hid X.out; clear X
              have X := Lib.hid (XB.out.below D6.out); clear XB
              have XB := Lib.hid X.out; clear X
              clear D6
              obtain ⟨g6, hg6⟩ := T6.out
              obtain ⟨c6, hv6, _⟩ := own_some O6.out hg6
              have hgg := F6.out g6 hg6
              obtain ⟨nr, hnr⟩ : ∃ nr, nr = 0 + q := ⟨_, rfl⟩
              obtain ⟨lr, hlr⟩ : ∃ lr, lr = [] ++ idCells (acc.drop 0) := ⟨_, rfl⟩
              have hv7 : v6 = .slice (some ⟨g6, 0, none⟩) nr c6 := by rw [hnr]; exact hv6
              have X := Lib.hid (show World.ownsRow _ _ _ _ _ nr lr from by rw [hnr, hlr]; exact O6.out); clear O6 hv6
              have O6 := Lib.hid X.out; clear X
              subst hv7
              have hnq : nr ≤ q := by omega
              have HNR := Lib.hid hnr; clear hnr
              have HLR := Lib.hid hlr; clear hlr
              clear T6 F6 hg6
              refine wp_region_h 5 [6] [0, 1, 2, 3, 4] [5, 7, 8] (by kernel_rfl) (by kernel_rfl) ?_
              have X := Lib.hid SB.out.drew; clear SB
              have SB := Lib.hid X.out; clear X
              have X := Lib.hid XB.out.drew; clear XB
              have XB := Lib.hid X.out; clear X
              have X := Lib.hid (MO.out.keptBelowJ (Below.refl _ _).drew); clear MO
              have MO := Lib.hid X.out; clear X
              have X := Lib.hid (BW.out.drew); clear BW
              have BW := Lib.hid X.out; clear X
              have X := Lib.hid (HO.out.keptBelowJ (Below.refl _ _).drew); clear HO
              have HO := Lib.hid X.out; clear X
              have X := Lib.hid (cell_below H13.out (Below.refl _ _).drew); clear H13
              have H13 := Lib.hid X.out; clear X
              have X := Lib.hid (O6.out.keptBelowJ (Below.refl _ _).drew); clear O6
              have O6 := Lib.hid X.out; clear X
              refine wpFl_step rfl ?_; go_wp2; refine ⟨rfl, ?_⟩
              refine wpFl_nil ?_
              iterate 3 (refine wpH_quiet rfl rfl (by kernel_rfl) rfl ?_; go_wp2; refine ⟨rfl, ?_⟩)
              refine wpH_quiet rfl rfl (by kernel_rfl) rfl ?_; refine wpList_load_row_g _ (by first | rfl | kernel_rfl) ⟨gx, 0, none⟩ rfl [.int .i64 ir, .int .i64 is] agg_Id rfl (blk_cells XB.out) ?_; go_wp2; refine ⟨rfl, ?_⟩
              refine wpH_actor rfl rfl (by kernel_rfl) ?_
              go_wp2
              refine ⟨Ext.alloc (Ext.refl _) _, ?_⟩
              refine wpH_nil ?_
              simp only [pickOps, List.getElem?_toArray, List.getElem?_cons_succ, List.getElem?_cons_zero]
              have hgw := HO.out.lt g rfl
              have h6w := O6.out.lt g6 rfl
              have hto := own_take HO.out hatq
              rw [idCells_take] at hto
              have HTO := Lib.hid hto; clear hto
              have HRS := Lib.hid (Reads.of_own O6.out)
              go_wp2_with (first
                | (at_builtin; refine wpList_app E_Id _ rfl (.tmp 75) (.tmp 77) rfl (w.heap.size + 1) _ 0 _ rfl (HTO.out.alloc _) _ _ _ _ rfl (Reads.new (e := 36) rfl) (by intro u hu; simp at hu; rcases hu with rfl | rfl <;> rfl) (by omega) (by simp at hgw ⊢; omega) ?_; intro v7 w7 hown7 hg7 hat7; have O7 := Lib.hid hown7; have G7 := Lib.hid hg7; have A7 := Lib.hid (show v7.ownBlock = some g ∨ v7.ownBlock = some _ from hat7); have R7 := Lib.hid (show Reads w7 2 (some ⟨g6, 0, none⟩) nr lr from ⟨HRS.out.1, fun h0 => ⟨_, rfl, fun jj u hu => by obtain ⟨_, e6, hc6⟩ := HRS.out.2 h0; injection e6 with e6; subst e6; have h8 := hc6 jj u hu; rw [World.cell?_of_block (hg7.block _ (by simp at h6w ⊢; rw [add_plain]; simp; omega) (fun e => by injection e with e; rw [add_plain] at e; simp at e; omega))]; exact ((Below.refl _ _).alloc (Nat.le_refl _) _).cell (by rw [add_plain]; exact h6w.2) |>.trans h8⟩⟩); clear hown7 hg7 hat7)
                | (at_builtin; go_must (refine wpList_app E_Id _ rfl (.tmp 78) (.tmp 79) rfl (w.heap.size + 1) _ (0 + 1) _ rfl O7.out _ _ _ _ rfl R7.out (by rw [HLR.out]; simpa using ids_one (acc.drop 0)) (by omega) (Nat.le_trans (by simp at hgw ⊢; omega) G7.out.size) ?_; intro v8 w8 hown8 hg8 hat8; have O8 := Lib.hid hown8; have G8 := Lib.hid hg8; have A8 := Lib.hid hat8; clear hown8 hg8 hat8))
                | fail)
              refine ⟨trivial, ?_⟩
              have hq1 : 0 + 1 + nr = q + 1 := by have := HNR.out; omega
              have hO8 := O8.out
              have hce : idCells (acc.take 0) ++ [.int .i64 ir, .int .i64 is] ++ lr = idCells (acc.take 0 ++ ⟨ir, is⟩ :: acc.drop 0) := by rw [HLR.out, idCells_app]; simp [idCells]
              have hO9 : World.ownsRow w8 (w.heap.size + 1) 36 2 v8 (q + 1) (idCells (acc.take 0 ++ ⟨ir, is⟩ :: acc.drop 0)) := by rw [← hq1, ← hce]; exact hO8
              clear hO8
              have hA7 : v7.ownBlock = some g ∨ v7.ownBlock = some (World.heap w6).size.succ := A7.out.imp id (fun h => h.trans (by simp))
              have hG7 : World.grownBy (World.alloc (World.drew w6) (.cells #[.int .i64 ir, .int .i64 is] 36)) w7 (some g) := G7.out
              have hG8 : World.grownBy w7 w8 v7.ownBlock := G8.out
              have hA8 : v8.ownBlock = v7.ownBlock ∨ v8.ownBlock = some (World.heap w7).size := A8.out
              have hs7 : (World.heap w6).size.succ ≤ (World.heap w7).size := Nat.le_trans (by simp) hG7.size
              obtain ⟨g8, c8, rfl, _, hg8⟩ := own_some0 hO9 (Nat.succ_pos q)
              have hg8c : g8 = g ∨ (World.heap w6).size < g8 := by rcases hA8 with h | h; (rcases hA7 with h2 | h2 <;> (rw [h2] at h; injection h with h; simp at h; omega)); (injection h with h; simp at h; omega)
              have hk8 : ∀ b, b < (World.heap w6).size → b ≠ g → w8.heap[b]? = w6.heap[b]? := fun b hb hne => (hG8.block b (by omega) (fun e => by rcases hA7 with h2 | h2 <;> (rw [h2] at e; injection e with e; omega))).trans ((hG7.block b (by simp; omega) (fun e => by injection e with e; exact hne e)).trans (((Below.refl _ (World.drew w6)).alloc (Nat.le_refl _) _).block b hb))
              have hgb : w.heap.size < g ∧ g < (World.heap w6).size := ⟨by have := hgw.1; omega, hgw.2⟩
              have hbw : Below w.heap.size w w8 := ⟨hG8.os.trans (hG7.os.trans BW.out.os), hG8.tape.trans (hG7.tape.trans BW.out.tape), hG8.output.trans (hG7.output.trans BW.out.output), Nat.le_trans BW.out.size (Nat.le_trans (by simp) (Nat.le_trans hs7 hG8.size)), fun b hb => (hk8 b (by omega) (by omega)).trans (BW.out.block b hb)⟩
              have Z1 := Lib.hid hbw
              have Z2 := Lib.hid (SB.out.keep (hk8 _ (by omega) (by omega)))
              have Z3 := Lib.hid (ownsRow_keep (base' := w.heap.size) MO.out (fun b hb => ⟨(MO.out.lt b hb).1, hk8 b (MO.out.lt b hb).2 (MN.out b hb)⟩))
              have Z4 := Lib.hid (show ∀ b, (Value.slice A1 m1 c1).ownBlock = some b → b ≠ g8 from fun b hb e => by have h1 := MN.out b hb; have h2 := (MO.out.lt b hb).2; have h3 : b < (World.heap w6).size := h2; omega)
              have Z5 := Lib.hid (show ∀ y ∈ acc.take 0 ++ ⟨ir, is⟩ :: acc.drop 0, comB xs y = true from fun y hy => by rcases List.mem_append.1 hy with h | h; (exact HC.out y (List.mem_of_mem_take h)); (rcases List.mem_cons.1 h with rfl | h; (exact HCY.out); (exact HC.out y (List.mem_of_mem_drop h))))
              have Z6 := Lib.hid hO9
              have Z7 := Lib.hid (show q + 1 = (acc.take 0 ++ ⟨ir, is⟩ :: acc.drop 0).length from by rw [List.length_append, List.length_cons, List.length_take, List.length_drop, ← HQ.out]; omega)
              clear hO9 hA7 hG7 hG8 hA8 hs7 hg8 hg8c hk8 hgb hbw hq1 hce O8 G8 A8 O7 G7 A7 R7 HRS HTO O6 HNR HLR
              go_wp2
              exact ⟨⟨j + 1, q + 1, g8, c8, _, by omega, by go_num, rfl, Z7.out, by omega, HT3.out, Z5.out, Z6.out, Z2.out, Z3.out, Z4.out, Z1.out⟩, by simp only [intOf]; omega⟩
            · obtain ⟨m', rfl⟩ : ∃ m', m = m' + 1 := ⟨m - 1, by omega⟩
              have hmx : m' < acc.length := by have := HQ.out; omega
              have hgd : acc.getD m' ⟨ir, is⟩ = acc[m'] := by rw [List.getD_eq_getElem?_getD, List.getElem?_eq_getElem hmx, Option.getD_some]
              have hat2 := HAT.out
              rw [atF, hgd, HSQ.out] at hat2
              obtain ⟨_, hra, hrz⟩ := reads_id (Reads.of_own HO.out) HQ.out m' hmx
              injection hra with hra
              subst hra
              have hcz := HC.out (acc[m']'hmx) (List.getElem_mem hmx)
              have HFZ := Lib.hid (fun cs W h h' => HFI.out (acc[m']'hmx) cs W h h')
              have HZQ := Lib.hid (fun j2 hj2 hh => HSEQ.out (acc[m']'hmx) j2 hj2 hh)
              have HZC := Lib.hid hrz; clear hrz hgd
              have HAT2 := Lib.hid hat2; clear hat2 HAT
              have HCZ := Lib.hid hcz; clear hcz
              generalize acc[m'] = z at *
              obtain ⟨zr, zs⟩ := z
              simp only [] at HZC HFZ
              have h13 := H13.out
              have hm1 : ((m' : Int) + 1 - 1) = (m' : Int) := by omega
              go_wp2
              refine wp_region_x 21 [0, 1, 2, 3, 4, 5, 6, 7, 8, 9, 14, 15, 16, 17, 18, 10, 11, 12, 13, 19, 20] (by kernel_rfl) (by kernel_rfl) ?_
              clear h13
              have X := Lib.hid SB.out.drew; clear SB
              have SB := Lib.hid X.out; clear X
              have X := Lib.hid XB.out.drew; clear XB
              have XB := Lib.hid X.out; clear X
              have X := Lib.hid (MO.out.keptBelowJ (Below.refl _ _).drew); clear MO
              have MO := Lib.hid X.out; clear X
              have X := Lib.hid (BW.out.drew); clear BW
              have BW := Lib.hid X.out; clear X
              have X := Lib.hid (HO.out.keptBelowJ (Below.refl _ _).drew); clear HO
              have HO := Lib.hid X.out; clear X
              have X := Lib.hid (cell_below H13.out (Below.refl _ _).drew); clear H13
              have H13 := Lib.hid X.out; clear X
              iterate 9 (refine wpX_quiet rfl (by kernel_rfl) rfl ?_; go_wp2; refine ⟨rfl, ?_⟩)
              have HZD := Lib.hid (show ∀ f u, [Value.int .i64 zr, .int .i64 zs][f]? = some u → _ from fun f u hu => by have h1 := HZC.out f u hu; rw [add_plain, Nat.zero_add] at h1; exact h1)
              refine wpX_quiet rfl (by kernel_rfl) rfl ?_; go_wp2_with (first | (first | refine wpList_load_row_g _ (by first | rfl | kernel_rfl) ⟨g, m' * 2, none⟩ rfl [.int .i64 zr, .int .i64 zs] agg_Id rfl HZD.out ?_ | refine wpList_load_row_g _ (by first | rfl | kernel_rfl) ((⟨g, 0, none⟩ : Addr).add (m' * 2)) rfl [.int .i64 zr, .int .i64 zs] agg_Id rfl HZC.out ?_) | fail); refine ⟨rfl, ?_⟩
              iterate 4 (refine wpX_quiet rfl (by kernel_rfl) rfl ?_; go_wp2; refine ⟨rfl, ?_⟩)
              have h13 := H13.out
              iterate 1 (refine wpX_quiet rfl (by kernel_rfl) rfl ?_; go_wp2; refine ⟨rfl, ?_⟩)
              clear h13 HZC HZD
              refine wpX_actor rfl (by kernel_rfl) ?_; go_wp2_with fail
              refine (HFZ.out _ _ (HR.out.below BW.out) (id_shut2 _ _)).mono ?_; rintro e v5 ⟨r, rfl, hr, hb⟩
              have HB := Lib.hid hb; clear hb
              have X := Lib.hid (HO.out.keptBelowJ HB.out); clear HO
              have HO := Lib.hid X.out; clear X
              have X := Lib.hid (SB.out.below HB.out); clear SB
              have SB := Lib.hid X.out; clear X
              have X := Lib.hid (MO.out.keptBelowJ HB.out); clear MO
              have MO := Lib.hid X.out; clear X
              have X := Lib.hid (BW.out.trans (Below.mono HB.out BW.out.size)); clear BW
              have BW := Lib.hid X.out; clear X
              have X := Lib.hid (cell_below H13.out HB.out); clear H13
              have H13 := Lib.hid X.out; clear X
              have X := Lib.hid (XB.out.below HB.out); clear XB
              have XB := Lib.hid X.out; clear X
              have X := Lib.hid ((CW.out.drew).trans (Below.mono HB.out CW.out.size)); clear CW
              have CW := Lib.hid X.out; clear X
              rcases hr with ⟨j2, hj2, rfl, _, _, hz2⟩ | ⟨rfl, hc2, _⟩
              rotate_left
              · rw [HCZ.out] at hc2; cases hc2
              have hsz := HZQ.out j2 hj2 hz2
              rw [hsz] at HAT2
              obtain ⟨ad2, cj, he2, _, _, hrc2, hl2, hc2⟩ := (HR.out.below BW.out).elem InstD.width j2 hj2 HN.out
              injection he2 with he2
              subst he2
              obtain ⟨_, _, _, _, rfl, _⟩ := InstD.open hrc2
              have H2 := Lib.hid (show v5.cell? ⟨(ad.add (j2 * 16)).block, (ad.add (j2 * 16)).off + 13, none⟩ = some (Value.int .i64 xs[j2].seq) from hc2 13 _ rfl); clear hc2 hrc2 hl2 hz2 hsz
              have hj2n : j2 < n := by have := HN.out; omega
              generalize xs[j2].seq = sz at *
              go_wp2; refine ⟨Ext.of_below HB.out, ?_⟩
              clear HB
              iterate 2 (refine wpX_quiet rfl (by kernel_rfl) rfl ?_; go_wp2; refine ⟨rfl, ?_⟩)
              have h2 := H2.out
              iterate 1 (refine wpX_quiet rfl (by kernel_rfl) rfl ?_; go_wp2; refine ⟨rfl, ?_⟩)
              clear h2 H2
              by_cases hgt : sq < sz
              · have d1 : decide (sq < sz) = true := by simpa using hgt
                have hat3 := HAT2.out
                rw [if_pos hgt] at hat3
                have HAT3 := Lib.hid hat3; clear hat3
                iterate 2 (refine wpX_quiet rfl (by kernel_rfl) rfl ?_; go_wp2; refine ⟨rfl, ?_⟩)
                refine wpX_nil ?_; try simp only [List.drop_succ_cons, List.drop_zero]
                go_wp2
                exact ⟨⟨m', by omega, by go_num, HAT3.out, CW.out⟩, by simp only [intOf]; omega⟩
              · have d1 : decide (sq < sz) = false := by simpa using hgt
                have hat3 := HAT2.out
                rw [if_neg hgt] at hat3
                have HA := Lib.hid hat3; clear hat3
                iterate 2 (refine wpX_quiet rfl (by kernel_rfl) rfl ?_; go_wp2; refine ⟨rfl, ?_⟩)
                refine wpX_nil ?_; try simp only [List.drop_succ_cons, List.drop_zero]
                have hqc0 : q ≤ c' := (own_some HO.out rfl).elim fun c2 h => by have := h.1; injection this with _ _ e; omega
                by_cases hcc : c' = (m' + 1)
                · subst hcc
                  have hatq : (m' + 1) ≤ q := by omega
                  have hT3 := HT2.out
                  rw [insP, ← HQ.out, HA.out] at hT3
                  have HT3 := Lib.hid hT3; clear hT3
                  have hdr := idCells_drop acc (m' + 1)
                  have hqc : q ≤ (m' + 1) := hqc0
                  have HRD := Lib.hid (show Reads (World.alloc (v5) (.cells #[] 36)) 2 (some (⟨g, 0, none⟩ : Addr)) 0 (idCells (acc.drop (m' + 1))) from by rw [← hdr]; have h8 := reads_drop (Reads.of_own (HO.out.alloc (.cells #[] 36))) hatq; exact ⟨by have h9 := h8.1; omega, fun h0 => by omega⟩); clear hdr
                  go_wp2_with (first | (at_builtin; go_must (refine wpList_app E_Id _ rfl (.tmp 68) (.tmp 71) rfl (w.heap.size + 1) _ 0 [] rfl (own_nilAt _ _ _ _ _ rfl (by have h2 := (HO.out.lt g rfl); exact Nat.le_of_lt (Nat.lt_of_le_of_lt h2.1 h2.2))) _ _ _ _ rfl HRD.out (ids_one _) (by omega) (by have h3 := (HO.out.lt g rfl).1; have h2 := (HO.out.lt g rfl).2; simp at h2 ⊢; omega) ?_; intro v6 w6 hown6 hg6 hat6; have D6 := Lib.hid (show Below (World.heap (v5)).size (v5) w6 from Below.grown (show Below (World.heap (v5)).size (v5) (World.alloc (v5) (.cells #[] 36)) from (Below.refl _ _).alloc (Nat.le_refl _) _) hg6 (by simp) (fun k hk => by have hk2 : (Value.slice (some ⟨(World.heap (v5)).size, 0, none⟩) 0 0).ownBlock = some k := hk; simp [Value.ownBlock] at hk2; simp; omega)); have O6 := Lib.hid hown6; have T6 := Lib.hid (show (∃ k, v6.ownBlock = some k) from hat6.elim (fun h => ⟨_, h⟩) (fun h => ⟨_, h⟩)); have F6 := Lib.hid (show ∀ k, v6.ownBlock = some k → g < k from fun k hk => by have h3 := (HO.out.lt g rfl).2; have hat7 : v6.ownBlock = (Value.slice (some ⟨(World.heap (v5)).size, 0, none⟩) 0 0).ownBlock ∨ v6.ownBlock = some (World.heap (World.alloc (v5) (.cells #[] 36))).size := hat6; rcases hat7 with h | h <;> (rw [h] at hk; simp [Value.ownBlock] at hk h3; omega)); clear hown6 hg6 hat6)) | fail)
                  clear HRD
                  have X := Lib.hid (HO.out.keptBelowJ D6.out); clear HO
                  have HO := Lib.hid X.out; clear X
                  have X := Lib.hid (SB.out.below D6.out); clear SB
                  have SB := Lib.hid X.out; clear X
                  have X := Lib.hid (MO.out.keptBelowJ D6.out); clear MO
                  have MO := Lib.hid X.out; clear X
                  have X := Lib.hid (BW.out.trans (Below.mono D6.out BW.out.size)); clear BW
                  have BW := Lib.hid X.out; clear X
                  have X := Lib.hid (cell_below H13.out D6.out); clear H13
                  have H13 := Lib.hid X.out; clear X
                  have X := Lib.hid (XB.out.below D6.out); clear XB
                  have XB := Lib.hid X.out; clear X
                  clear D6
                  obtain ⟨g6, hg6⟩ := T6.out
                  obtain ⟨c6, hv6, _⟩ := own_some O6.out hg6
                  have hgg := F6.out g6 hg6
                  obtain ⟨nr, hnr⟩ : ∃ nr, nr = 0 := ⟨_, rfl⟩
                  obtain ⟨lr, hlr⟩ : ∃ lr, lr = [] ++ idCells (acc.drop (m' + 1)) := ⟨_, rfl⟩
                  have hv7 : v6 = .slice (some ⟨g6, 0, none⟩) nr c6 := by rw [hnr]; exact hv6
                  have X := Lib.hid (show World.ownsRow _ _ _ _ _ nr lr from by rw [hnr, hlr]; exact O6.out); clear O6 hv6
                  have O6 := Lib.hid X.out; clear X
                  subst hv7
                  have hnq : nr ≤ q := by omega
                  have HNR := Lib.hid hnr; clear hnr
                  have HLR := Lib.hid hlr; clear hlr
                  clear T6 F6 hg6
                  refine wp_region_h 5 [6] [0, 1, 2, 3, 4] [5, 7, 8] (by kernel_rfl) (by kernel_rfl) ?_
                  have X := Lib.hid SB.out.drew; clear SB
                  have SB := Lib.hid X.out; clear X
                  have X := Lib.hid XB.out.drew; clear XB
                  have XB := Lib.hid X.out; clear X
                  have X := Lib.hid (MO.out.keptBelowJ (Below.refl _ _).drew); clear MO
                  have MO := Lib.hid X.out; clear X
                  have X := Lib.hid (BW.out.drew); clear BW
                  have BW := Lib.hid X.out; clear X
                  have X := Lib.hid (HO.out.keptBelowJ (Below.refl _ _).drew); clear HO
                  have HO := Lib.hid X.out; clear X
                  have X := Lib.hid (cell_below H13.out (Below.refl _ _).drew); clear H13
                  have H13 := Lib.hid X.out; clear X
                  have X := Lib.hid (O6.out.keptBelowJ (Below.refl _ _).drew); clear O6
                  have O6 := Lib.hid X.out; clear X
                  refine wpFl_step rfl ?_; go_wp2; refine ⟨rfl, ?_⟩
                  refine wpFl_nil ?_
                  iterate 3 (refine wpH_quiet rfl rfl (by kernel_rfl) rfl ?_; go_wp2; refine ⟨rfl, ?_⟩)
                  refine wpH_quiet rfl rfl (by kernel_rfl) rfl ?_; refine wpList_load_row_g _ (by first | rfl | kernel_rfl) ⟨gx, 0, none⟩ rfl [.int .i64 ir, .int .i64 is] agg_Id rfl (blk_cells XB.out) ?_; go_wp2; refine ⟨rfl, ?_⟩
                  refine wpH_actor rfl rfl (by kernel_rfl) ?_
                  go_wp2
                  refine ⟨Ext.alloc (Ext.refl _) _, ?_⟩
                  refine wpH_nil ?_
                  simp only [pickOps, List.getElem?_toArray, List.getElem?_cons_succ, List.getElem?_cons_zero]
                  have hgw := HO.out.lt g rfl
                  have h6w := O6.out.lt g6 rfl
                  have hto := own_take HO.out hatq
                  rw [idCells_take] at hto
                  have HTO := Lib.hid hto; clear hto
                  have HRS := Lib.hid (Reads.of_own O6.out)
                  go_wp2_with (first
                    | (at_builtin; refine wpList_app E_Id _ rfl (.tmp 75) (.tmp 77) rfl (w.heap.size + 1) _ (m' + 1) _ rfl (HTO.out.alloc _) _ _ _ _ rfl (Reads.new (e := 36) rfl) (by intro u hu; simp at hu; rcases hu with rfl | rfl <;> rfl) (by omega) (by simp at hgw ⊢; omega) ?_; intro v7 w7 hown7 hg7 hat7; have O7 := Lib.hid hown7; have G7 := Lib.hid hg7; have A7 := Lib.hid (show v7.ownBlock = some g ∨ v7.ownBlock = some _ from hat7); have R7 := Lib.hid (show Reads w7 2 (some ⟨g6, 0, none⟩) nr lr from ⟨HRS.out.1, fun h0 => ⟨_, rfl, fun jj u hu => by obtain ⟨_, e6, hc6⟩ := HRS.out.2 h0; injection e6 with e6; subst e6; have h8 := hc6 jj u hu; rw [World.cell?_of_block (hg7.block _ (by simp at h6w ⊢; rw [add_plain]; simp; omega) (fun e => by injection e with e; rw [add_plain] at e; simp at e; omega))]; exact ((Below.refl _ _).alloc (Nat.le_refl _) _).cell (by rw [add_plain]; exact h6w.2) |>.trans h8⟩⟩); clear hown7 hg7 hat7)
                    | (at_builtin; go_must (refine wpList_app E_Id _ rfl (.tmp 78) (.tmp 79) rfl (w.heap.size + 1) _ ((m' + 1) + 1) _ rfl O7.out _ _ _ _ rfl R7.out (by rw [HLR.out]; simpa using ids_one (acc.drop (m' + 1))) (by omega) (Nat.le_trans (by simp at hgw ⊢; omega) G7.out.size) ?_; intro v8 w8 hown8 hg8 hat8; have O8 := Lib.hid hown8; have G8 := Lib.hid hg8; have A8 := Lib.hid hat8; clear hown8 hg8 hat8))
                    | fail)
                  refine ⟨trivial, ?_⟩
                  have hq1 : (m' + 1) + 1 + nr = q + 1 := by have := HNR.out; omega
                  have hO8 := O8.out
                  have hce : idCells (acc.take (m' + 1)) ++ [.int .i64 ir, .int .i64 is] ++ lr = idCells (acc.take (m' + 1) ++ ⟨ir, is⟩ :: acc.drop (m' + 1)) := by rw [HLR.out, idCells_app]; simp [idCells]
                  have hO9 : World.ownsRow w8 (w.heap.size + 1) 36 2 v8 (q + 1) (idCells (acc.take (m' + 1) ++ ⟨ir, is⟩ :: acc.drop (m' + 1))) := by rw [← hq1, ← hce]; exact hO8
                  clear hO8
                  have hA7 : v7.ownBlock = some g ∨ v7.ownBlock = some (World.heap w6).size.succ := A7.out.imp id (fun h => h.trans (by simp))
                  have hG7 : World.grownBy (World.alloc (World.drew w6) (.cells #[.int .i64 ir, .int .i64 is] 36)) w7 (some g) := G7.out
                  have hG8 : World.grownBy w7 w8 v7.ownBlock := G8.out
                  have hA8 : v8.ownBlock = v7.ownBlock ∨ v8.ownBlock = some (World.heap w7).size := A8.out
                  have hs7 : (World.heap w6).size.succ ≤ (World.heap w7).size := Nat.le_trans (by simp) hG7.size
                  obtain ⟨g8, c8, rfl, _, hg8⟩ := own_some0 hO9 (Nat.succ_pos q)
                  have hg8c : g8 = g ∨ (World.heap w6).size < g8 := by rcases hA8 with h | h; (rcases hA7 with h2 | h2 <;> (rw [h2] at h; injection h with h; simp at h; omega)); (injection h with h; simp at h; omega)
                  have hk8 : ∀ b, b < (World.heap w6).size → b ≠ g → w8.heap[b]? = w6.heap[b]? := fun b hb hne => (hG8.block b (by omega) (fun e => by rcases hA7 with h2 | h2 <;> (rw [h2] at e; injection e with e; omega))).trans ((hG7.block b (by simp; omega) (fun e => by injection e with e; exact hne e)).trans (((Below.refl _ (World.drew w6)).alloc (Nat.le_refl _) _).block b hb))
                  have hgb : w.heap.size < g ∧ g < (World.heap w6).size := ⟨by have := hgw.1; omega, hgw.2⟩
                  have hbw : Below w.heap.size w w8 := ⟨hG8.os.trans (hG7.os.trans BW.out.os), hG8.tape.trans (hG7.tape.trans BW.out.tape), hG8.output.trans (hG7.output.trans BW.out.output), Nat.le_trans BW.out.size (Nat.le_trans (by simp) (Nat.le_trans hs7 hG8.size)), fun b hb => (hk8 b (by omega) (by omega)).trans (BW.out.block b hb)⟩
                  have Z1 := Lib.hid hbw
                  have Z2 := Lib.hid (SB.out.keep (hk8 _ (by omega) (by omega)))
                  have Z3 := Lib.hid (ownsRow_keep (base' := w.heap.size) MO.out (fun b hb => ⟨(MO.out.lt b hb).1, hk8 b (MO.out.lt b hb).2 (MN.out b hb)⟩))
                  have Z4 := Lib.hid (show ∀ b, (Value.slice A1 m1 c1).ownBlock = some b → b ≠ g8 from fun b hb e => by have h1 := MN.out b hb; have h2 := (MO.out.lt b hb).2; have h3 : b < (World.heap w6).size := h2; omega)
                  have Z5 := Lib.hid (show ∀ y ∈ acc.take (m' + 1) ++ ⟨ir, is⟩ :: acc.drop (m' + 1), comB xs y = true from fun y hy => by rcases List.mem_append.1 hy with h | h; (exact HC.out y (List.mem_of_mem_take h)); (rcases List.mem_cons.1 h with rfl | h; (exact HCY.out); (exact HC.out y (List.mem_of_mem_drop h))))
                  have Z6 := Lib.hid hO9
                  have Z7 := Lib.hid (show q + 1 = (acc.take (m' + 1) ++ ⟨ir, is⟩ :: acc.drop (m' + 1)).length from by rw [List.length_append, List.length_cons, List.length_take, List.length_drop, ← HQ.out]; omega)
                  clear hO9 hA7 hG7 hG8 hA8 hs7 hg8 hg8c hk8 hgb hbw hq1 hce O8 G8 A8 O7 G7 A7 R7 HRS HTO O6 HNR HLR
                  go_wp2
                  exact ⟨⟨j + 1, q + 1, g8, c8, _, by omega, by go_num, rfl, Z7.out, by omega, HT3.out, Z5.out, Z6.out, Z2.out, Z3.out, Z4.out, Z1.out⟩, by simp only [intOf]; omega⟩
                · skip
                  have hatq : (m' + 1) ≤ q := by omega
                  have hT3 := HT2.out
                  rw [insP, ← HQ.out, HA.out] at hT3
                  have HT3 := Lib.hid hT3; clear hT3
                  have hdr := idCells_drop acc (m' + 1)
                  have hqc : q ≤ c' := hqc0
                  have HRD := Lib.hid (show Reads (World.alloc (v5) (.cells #[] 36)) 2 (some (⟨g, (m' + 1) * 2, none⟩ : Addr)) (q - (m' + 1)) (idCells (acc.drop (m' + 1))) from by rw [← hdr]; have h8 := reads_drop (Reads.of_own (HO.out.alloc (.cells #[] 36))) hatq; rw [add_plain, Nat.zero_add] at h8; exact h8); clear hdr
                  go_wp2_with (first | (at_builtin; go_must (refine wpList_app E_Id _ rfl (.tmp 68) (.tmp 71) rfl (w.heap.size + 1) _ 0 [] rfl (own_nilAt _ _ _ _ _ rfl (by have h2 := (HO.out.lt g rfl); exact Nat.le_of_lt (Nat.lt_of_le_of_lt h2.1 h2.2))) _ _ _ _ rfl HRD.out (ids_one _) (by omega) (by have h3 := (HO.out.lt g rfl).1; have h2 := (HO.out.lt g rfl).2; simp at h2 ⊢; omega) ?_; intro v6 w6 hown6 hg6 hat6; have D6 := Lib.hid (show Below (World.heap (v5)).size (v5) w6 from Below.grown (show Below (World.heap (v5)).size (v5) (World.alloc (v5) (.cells #[] 36)) from (Below.refl _ _).alloc (Nat.le_refl _) _) hg6 (by simp) (fun k hk => by have hk2 : (Value.slice (some ⟨(World.heap (v5)).size, 0, none⟩) 0 0).ownBlock = some k := hk; simp [Value.ownBlock] at hk2; simp; omega)); have O6 := Lib.hid hown6; have T6 := Lib.hid (show (∃ k, v6.ownBlock = some k) from hat6.elim (fun h => ⟨_, h⟩) (fun h => ⟨_, h⟩)); have F6 := Lib.hid (show ∀ k, v6.ownBlock = some k → g < k from fun k hk => by have h3 := (HO.out.lt g rfl).2; have hat7 : v6.ownBlock = (Value.slice (some ⟨(World.heap (v5)).size, 0, none⟩) 0 0).ownBlock ∨ v6.ownBlock = some (World.heap (World.alloc (v5) (.cells #[] 36))).size := hat6; rcases hat7 with h | h <;> (rw [h] at hk; simp [Value.ownBlock] at hk h3; omega)); clear hown6 hg6 hat6)) | fail)
                  clear HRD
                  have X := Lib.hid (HO.out.keptBelowJ D6.out); clear HO
                  have HO := Lib.hid X.out; clear X
                  have X := Lib.hid (SB.out.below D6.out); clear SB
                  have SB := Lib.hid X.out; clear X
                  have X := Lib.hid (MO.out.keptBelowJ D6.out); clear MO
                  have MO := Lib.hid X.out; clear X
                  have X := Lib.hid (BW.out.trans (Below.mono D6.out BW.out.size)); clear BW
                  have BW := Lib.hid X.out; clear X
                  have X := Lib.hid (cell_below H13.out D6.out); clear H13
                  have H13 := Lib.hid X.out; clear X
                  have X := Lib.hid (XB.out.below D6.out); clear XB
                  have XB := Lib.hid X.out; clear X
                  clear D6
                  obtain ⟨g6, hg6⟩ := T6.out
                  obtain ⟨c6, hv6, _⟩ := own_some O6.out hg6
                  have hgg := F6.out g6 hg6
                  obtain ⟨nr, hnr⟩ : ∃ nr, nr = 0 + (q - (m' + 1)) := ⟨_, rfl⟩
                  obtain ⟨lr, hlr⟩ : ∃ lr, lr = [] ++ idCells (acc.drop (m' + 1)) := ⟨_, rfl⟩
                  have hv7 : v6 = .slice (some ⟨g6, 0, none⟩) nr c6 := by rw [hnr]; exact hv6
                  have X := Lib.hid (show World.ownsRow _ _ _ _ _ nr lr from by rw [hnr, hlr]; exact O6.out); clear O6 hv6
                  have O6 := Lib.hid X.out; clear X
                  subst hv7
                  have hnq : nr ≤ q := by omega
                  have HNR := Lib.hid hnr; clear hnr
                  have HLR := Lib.hid hlr; clear hlr
                  clear T6 F6 hg6
                  refine wp_region_h 5 [6] [0, 1, 2, 3, 4] [5, 7, 8] (by kernel_rfl) (by kernel_rfl) ?_
                  have X := Lib.hid SB.out.drew; clear SB
                  have SB := Lib.hid X.out; clear X
                  have X := Lib.hid XB.out.drew; clear XB
                  have XB := Lib.hid X.out; clear X
                  have X := Lib.hid (MO.out.keptBelowJ (Below.refl _ _).drew); clear MO
                  have MO := Lib.hid X.out; clear X
                  have X := Lib.hid (BW.out.drew); clear BW
                  have BW := Lib.hid X.out; clear X
                  have X := Lib.hid (HO.out.keptBelowJ (Below.refl _ _).drew); clear HO
                  have HO := Lib.hid X.out; clear X
                  have X := Lib.hid (cell_below H13.out (Below.refl _ _).drew); clear H13
                  have H13 := Lib.hid X.out; clear X
                  have X := Lib.hid (O6.out.keptBelowJ (Below.refl _ _).drew); clear O6
                  have O6 := Lib.hid X.out; clear X
                  refine wpFl_step rfl ?_; go_wp2; refine ⟨rfl, ?_⟩
                  refine wpFl_nil ?_
                  iterate 3 (refine wpH_quiet rfl rfl (by kernel_rfl) rfl ?_; go_wp2; refine ⟨rfl, ?_⟩)
                  refine wpH_quiet rfl rfl (by kernel_rfl) rfl ?_; refine wpList_load_row_g _ (by first | rfl | kernel_rfl) ⟨gx, 0, none⟩ rfl [.int .i64 ir, .int .i64 is] agg_Id rfl (blk_cells XB.out) ?_; go_wp2; refine ⟨rfl, ?_⟩
                  refine wpH_actor rfl rfl (by kernel_rfl) ?_
                  go_wp2
                  refine ⟨Ext.alloc (Ext.refl _) _, ?_⟩
                  refine wpH_nil ?_
                  simp only [pickOps, List.getElem?_toArray, List.getElem?_cons_succ, List.getElem?_cons_zero]
                  have hgw := HO.out.lt g rfl
                  have h6w := O6.out.lt g6 rfl
                  have hto := own_take HO.out hatq
                  rw [idCells_take] at hto
                  have HTO := Lib.hid hto; clear hto
                  have HRS := Lib.hid (Reads.of_own O6.out)
                  go_wp2_with (first
                    | (at_builtin; refine wpList_app E_Id _ rfl (.tmp 75) (.tmp 77) rfl (w.heap.size + 1) _ (m' + 1) _ rfl (HTO.out.alloc _) _ _ _ _ rfl (Reads.new (e := 36) rfl) (by intro u hu; simp at hu; rcases hu with rfl | rfl <;> rfl) (by omega) (by simp at hgw ⊢; omega) ?_; intro v7 w7 hown7 hg7 hat7; have O7 := Lib.hid hown7; have G7 := Lib.hid hg7; have A7 := Lib.hid (show v7.ownBlock = some g ∨ v7.ownBlock = some _ from hat7); have R7 := Lib.hid (show Reads w7 2 (some ⟨g6, 0, none⟩) nr lr from ⟨HRS.out.1, fun h0 => ⟨_, rfl, fun jj u hu => by obtain ⟨_, e6, hc6⟩ := HRS.out.2 h0; injection e6 with e6; subst e6; have h8 := hc6 jj u hu; rw [World.cell?_of_block (hg7.block _ (by simp at h6w ⊢; rw [add_plain]; simp; omega) (fun e => by injection e with e; rw [add_plain] at e; simp at e; omega))]; exact ((Below.refl _ _).alloc (Nat.le_refl _) _).cell (by rw [add_plain]; exact h6w.2) |>.trans h8⟩⟩); clear hown7 hg7 hat7)
                    | (at_builtin; go_must (refine wpList_app E_Id _ rfl (.tmp 78) (.tmp 79) rfl (w.heap.size + 1) _ ((m' + 1) + 1) _ rfl O7.out _ _ _ _ rfl R7.out (by rw [HLR.out]; simpa using ids_one (acc.drop (m' + 1))) (by omega) (Nat.le_trans (by simp at hgw ⊢; omega) G7.out.size) ?_; intro v8 w8 hown8 hg8 hat8; have O8 := Lib.hid hown8; have G8 := Lib.hid hg8; have A8 := Lib.hid hat8; clear hown8 hg8 hat8))
                    | fail)
                  refine ⟨trivial, ?_⟩
                  have hq1 : (m' + 1) + 1 + nr = q + 1 := by have := HNR.out; omega
                  have hO8 := O8.out
                  have hce : idCells (acc.take (m' + 1)) ++ [.int .i64 ir, .int .i64 is] ++ lr = idCells (acc.take (m' + 1) ++ ⟨ir, is⟩ :: acc.drop (m' + 1)) := by rw [HLR.out, idCells_app]; simp [idCells]
                  have hO9 : World.ownsRow w8 (w.heap.size + 1) 36 2 v8 (q + 1) (idCells (acc.take (m' + 1) ++ ⟨ir, is⟩ :: acc.drop (m' + 1))) := by rw [← hq1, ← hce]; exact hO8
                  clear hO8
                  have hA7 : v7.ownBlock = some g ∨ v7.ownBlock = some (World.heap w6).size.succ := A7.out.imp id (fun h => h.trans (by simp))
                  have hG7 : World.grownBy (World.alloc (World.drew w6) (.cells #[.int .i64 ir, .int .i64 is] 36)) w7 (some g) := G7.out
                  have hG8 : World.grownBy w7 w8 v7.ownBlock := G8.out
                  have hA8 : v8.ownBlock = v7.ownBlock ∨ v8.ownBlock = some (World.heap w7).size := A8.out
                  have hs7 : (World.heap w6).size.succ ≤ (World.heap w7).size := Nat.le_trans (by simp) hG7.size
                  obtain ⟨g8, c8, rfl, _, hg8⟩ := own_some0 hO9 (Nat.succ_pos q)
                  have hg8c : g8 = g ∨ (World.heap w6).size < g8 := by rcases hA8 with h | h; (rcases hA7 with h2 | h2 <;> (rw [h2] at h; injection h with h; simp at h; omega)); (injection h with h; simp at h; omega)
                  have hk8 : ∀ b, b < (World.heap w6).size → b ≠ g → w8.heap[b]? = w6.heap[b]? := fun b hb hne => (hG8.block b (by omega) (fun e => by rcases hA7 with h2 | h2 <;> (rw [h2] at e; injection e with e; omega))).trans ((hG7.block b (by simp; omega) (fun e => by injection e with e; exact hne e)).trans (((Below.refl _ (World.drew w6)).alloc (Nat.le_refl _) _).block b hb))
                  have hgb : w.heap.size < g ∧ g < (World.heap w6).size := ⟨by have := hgw.1; omega, hgw.2⟩
                  have hbw : Below w.heap.size w w8 := ⟨hG8.os.trans (hG7.os.trans BW.out.os), hG8.tape.trans (hG7.tape.trans BW.out.tape), hG8.output.trans (hG7.output.trans BW.out.output), Nat.le_trans BW.out.size (Nat.le_trans (by simp) (Nat.le_trans hs7 hG8.size)), fun b hb => (hk8 b (by omega) (by omega)).trans (BW.out.block b hb)⟩
                  have Z1 := Lib.hid hbw
                  have Z2 := Lib.hid (SB.out.keep (hk8 _ (by omega) (by omega)))
                  have Z3 := Lib.hid (ownsRow_keep (base' := w.heap.size) MO.out (fun b hb => ⟨(MO.out.lt b hb).1, hk8 b (MO.out.lt b hb).2 (MN.out b hb)⟩))
                  have Z4 := Lib.hid (show ∀ b, (Value.slice A1 m1 c1).ownBlock = some b → b ≠ g8 from fun b hb e => by have h1 := MN.out b hb; have h2 := (MO.out.lt b hb).2; have h3 : b < (World.heap w6).size := h2; omega)
                  have Z5 := Lib.hid (show ∀ y ∈ acc.take (m' + 1) ++ ⟨ir, is⟩ :: acc.drop (m' + 1), comB xs y = true from fun y hy => by rcases List.mem_append.1 hy with h | h; (exact HC.out y (List.mem_of_mem_take h)); (rcases List.mem_cons.1 h with rfl | h; (exact HCY.out); (exact HC.out y (List.mem_of_mem_drop h))))
                  have Z6 := Lib.hid hO9
                  have Z7 := Lib.hid (show q + 1 = (acc.take (m' + 1) ++ ⟨ir, is⟩ :: acc.drop (m' + 1)).length from by rw [List.length_append, List.length_cons, List.length_take, List.length_drop, ← HQ.out]; omega)
                  clear hO9 hA7 hG7 hG8 hA8 hs7 hg8 hg8c hk8 hgb hbw hq1 hce O8 G8 A8 O7 G7 A7 R7 HRS HTO O6 HNR HLR
                  go_wp2
                  exact ⟨⟨j + 1, q + 1, g8, c8, _, by omega, by go_num, rfl, Z7.out, by omega, HT3.out, Z5.out, Z6.out, Z2.out, Z3.out, Z4.out, Z1.out⟩, by simp only [intOf]; omega⟩
        · have e3 : (ys == is) = false := by simpa using e2
          have HNE := Lib.hid (show ¬ (⟨ir, ys⟩ : IdD) = ⟨ir, is⟩ from fun h => e2 (by injection h)); clear e2
          cases hb1 : hasB (rchL xs ⟨ir, is⟩) ⟨ir, ys⟩ with
          | false =>
            have HB1 := Lib.hid hb1
            have hT2 := HT.out
            rw [hb1] at hT2
            simp only [HNE.out, decide_false, Bool.false_or, Bool.false_and, Bool.false_eq_true, if_false] at hT2
            have HT2 := Lib.hid hT2; clear hT2 hb1 HT
            refine wp_region_g 17 (.one 0 (.one 1 (.act 2 (.one 3 (.one 4 (.one 5 (.one 6 (.one 7 (.one 8 (.one 9 (.one 10 (.one 12 (.one 11 (.one 13 (.one 14 (.one 15 (.one 16 .leaf))))))))))))))))) (by kernel_rfl) (by kernel_rfl) ?_
            have X := Lib.hid SB.out.drew; clear SB
            have SB := Lib.hid X.out; clear X
            have X := Lib.hid XB.out.drew; clear XB
            have XB := Lib.hid X.out; clear X
            have X := Lib.hid (MO.out.keptBelowJ (Below.refl _ _).drew); clear MO
            have MO := Lib.hid X.out; clear X
            have X := Lib.hid (BW.out.drew); clear BW
            have BW := Lib.hid X.out; clear X
            have X := Lib.hid (HO.out.keptBelowJ (Below.refl _ _).drew); clear HO
            have HO := Lib.hid X.out; clear X
            have X := Lib.hid (cell_below H13.out (Below.refl _ _).drew); clear H13
            have H13 := Lib.hid X.out; clear X
            refine wpG_quiet rfl (by kernel_rfl) rfl ?_; refine wpList_load_row_g _ (by first | rfl | kernel_rfl) ⟨gx, 0, none⟩ rfl [.int .i64 ir, .int .i64 ys] agg_Id rfl (blk_cells XB.out) ?_; go_wp2; refine ⟨rfl, ?_⟩
            refine wpG_quiet rfl (by kernel_rfl) rfl ?_; refine wpList_load_row_g _ (by first | rfl | kernel_rfl) ⟨w.heap.size, 0, none⟩ rfl [.int .i64 ir, .int .i64 is] agg_Id rfl (blk_cells SB.out) ?_; go_wp2; refine ⟨rfl, ?_⟩
            refine wpG_act rfl ?_; go_wp2
            refine ⟨Ext.refl _, ?_⟩
            iterate 1 (refine wpG_quiet rfl (by kernel_rfl) rfl ?_; go_wp2; refine ⟨rfl, ?_⟩)
            iterate 1 (refine wpG_quiet rfl (by kernel_rfl) rfl ?_; go_wp2; refine ⟨rfl, ?_⟩)
            refine wpG_quiet rfl (by kernel_rfl) rfl ?_; refine wpList_load_row_g _ (by first | rfl | kernel_rfl) ⟨gx, 0, none⟩ rfl [.int .i64 ir, .int .i64 ys] agg_Id rfl (blk_cells XB.out) ?_; go_wp2; refine ⟨rfl, ?_⟩
            refine wpG_actor rfl (by kernel_rfl) ?_; go_wp2_with fail
            refine (l8Has_any (rchL xs ⟨ir, is⟩) ⟨ir, ys⟩ A1 m1 c1 _ _ HM1.out (by omega) (own_rep MO.out HM1.out) (id_shut2 _ _)).mono ?_
            rintro e v2 ⟨rfl, hb⟩
            rw [HB1.out]
            have HB := Lib.hid hb; clear hb
            have X := Lib.hid (HO.out.keptBelowJ HB.out); clear HO
            have HO := Lib.hid X.out; clear X
            have X := Lib.hid (SB.out.below HB.out); clear SB
            have SB := Lib.hid X.out; clear X
            have X := Lib.hid (MO.out.keptBelowJ HB.out); clear MO
            have MO := Lib.hid X.out; clear X
            have X := Lib.hid (BW.out.trans (Below.mono HB.out BW.out.size)); clear BW
            have BW := Lib.hid X.out; clear X
            have X := Lib.hid (cell_below H13.out HB.out); clear H13
            have H13 := Lib.hid X.out; clear X
            have X := Lib.hid (XB.out.below HB.out); clear XB
            have XB := Lib.hid X.out; clear X
            go_wp2; refine ⟨Ext.of_below HB.out, ?_⟩
            clear HB
            iterate 2 (refine wpG_quiet rfl (by kernel_rfl) rfl ?_; go_wp2; refine ⟨rfl, ?_⟩)
            iterate 6 (refine wpG_skip rfl rfl (by kernel_rfl) ?_; simp only [List.setIfInBounds_toArray, List.set_cons_succ, List.set_cons_zero])
            iterate 2 (refine wpG_quiet rfl (by kernel_rfl) rfl ?_; go_wp2; refine ⟨rfl, ?_⟩)
            refine wpG_nil ?_; try simp only [List.drop_succ_cons, List.drop_zero]
            go_wp2
            exact ⟨⟨j + 1, q, g, c', acc, by omega, by go_num, rfl, HQ.out, by omega, HT2.out, HC.out, HO.out, SB.out, MO.out, MN.out, BW.out⟩, by simp only [intOf]; omega⟩
          | true =>
            have HB1 := Lib.hid hb1
            have hT1 := HT.out
            rw [hb1] at hT1
            have HCY := Lib.hid (HCJ.out hb1)
            clear hb1 HT
            cases hb2 : hasB (rchL xs ⟨ir, ys⟩) ⟨ir, is⟩ with
            | false =>
              have HB2 := Lib.hid hb2
              rw [hb2] at hT1
              simp only [HNE.out, decide_false, Bool.false_or, Bool.and_false, Bool.false_eq_true, if_false] at hT1
              have HT2 := Lib.hid hT1; clear hT1 hb2
              refine wp_region_g 17 (.one 0 (.one 1 (.act 2 (.one 3 (.one 4 (.one 5 (.one 6 (.one 7 (.one 8 (.one 9 (.one 10 (.one 12 (.one 11 (.one 13 (.one 14 (.one 15 (.one 16 .leaf))))))))))))))))) (by kernel_rfl) (by kernel_rfl) ?_
              have X := Lib.hid SB.out.drew; clear SB
              have SB := Lib.hid X.out; clear X
              have X := Lib.hid XB.out.drew; clear XB
              have XB := Lib.hid X.out; clear X
              have X := Lib.hid (MO.out.keptBelowJ (Below.refl _ _).drew); clear MO
              have MO := Lib.hid X.out; clear X
              have X := Lib.hid (BW.out.drew); clear BW
              have BW := Lib.hid X.out; clear X
              have X := Lib.hid (HO.out.keptBelowJ (Below.refl _ _).drew); clear HO
              have HO := Lib.hid X.out; clear X
              have X := Lib.hid (cell_below H13.out (Below.refl _ _).drew); clear H13
              have H13 := Lib.hid X.out; clear X
              refine wpG_quiet rfl (by kernel_rfl) rfl ?_; refine wpList_load_row_g _ (by first | rfl | kernel_rfl) ⟨gx, 0, none⟩ rfl [.int .i64 ir, .int .i64 ys] agg_Id rfl (blk_cells XB.out) ?_; go_wp2; refine ⟨rfl, ?_⟩
              refine wpG_quiet rfl (by kernel_rfl) rfl ?_; refine wpList_load_row_g _ (by first | rfl | kernel_rfl) ⟨w.heap.size, 0, none⟩ rfl [.int .i64 ir, .int .i64 is] agg_Id rfl (blk_cells SB.out) ?_; go_wp2; refine ⟨rfl, ?_⟩
              refine wpG_act rfl ?_; go_wp2
              refine ⟨Ext.refl _, ?_⟩
              iterate 1 (refine wpG_quiet rfl (by kernel_rfl) rfl ?_; go_wp2; refine ⟨rfl, ?_⟩)
              iterate 1 (refine wpG_quiet rfl (by kernel_rfl) rfl ?_; go_wp2; refine ⟨rfl, ?_⟩)
              refine wpG_quiet rfl (by kernel_rfl) rfl ?_; refine wpList_load_row_g _ (by first | rfl | kernel_rfl) ⟨gx, 0, none⟩ rfl [.int .i64 ir, .int .i64 ys] agg_Id rfl (blk_cells XB.out) ?_; go_wp2; refine ⟨rfl, ?_⟩
              refine wpG_actor rfl (by kernel_rfl) ?_; go_wp2_with fail
              refine (l8Has_any (rchL xs ⟨ir, is⟩) ⟨ir, ys⟩ A1 m1 c1 _ _ HM1.out (by omega) (own_rep MO.out HM1.out) (id_shut2 _ _)).mono ?_
              rintro e v2 ⟨rfl, hb⟩
              rw [HB1.out]
              have HB := Lib.hid hb; clear hb
              have X := Lib.hid (HO.out.keptBelowJ HB.out); clear HO
              have HO := Lib.hid X.out; clear X
              have X := Lib.hid (SB.out.below HB.out); clear SB
              have SB := Lib.hid X.out; clear X
              have X := Lib.hid (MO.out.keptBelowJ HB.out); clear MO
              have MO := Lib.hid X.out; clear X
              have X := Lib.hid (BW.out.trans (Below.mono HB.out BW.out.size)); clear BW
              have BW := Lib.hid X.out; clear X
              have X := Lib.hid (cell_below H13.out HB.out); clear H13
              have H13 := Lib.hid X.out; clear X
              have X := Lib.hid (XB.out.below HB.out); clear XB
              have XB := Lib.hid X.out; clear X
              go_wp2; refine ⟨Ext.of_below HB.out, ?_⟩
              clear HB
              iterate 2 (refine wpG_quiet rfl (by kernel_rfl) rfl ?_; go_wp2; refine ⟨rfl, ?_⟩)
              iterate 1 (refine wpG_quiet rfl (by kernel_rfl) rfl ?_; go_wp2; refine ⟨rfl, ?_⟩)
              refine wpG_quiet rfl (by kernel_rfl) rfl ?_; refine wpList_load_row_g _ (by first | rfl | kernel_rfl) ⟨gx, 0, none⟩ rfl [.int .i64 ir, .int .i64 ys] agg_Id rfl (blk_cells XB.out) ?_; go_wp2; refine ⟨rfl, ?_⟩
              refine wpG_quiet rfl (by kernel_rfl) rfl ?_; refine wpList_load_row_g _ (by first | rfl | kernel_rfl) ⟨w.heap.size, 0, none⟩ rfl [.int .i64 ir, .int .i64 is] agg_Id rfl (blk_cells SB.out) ?_; go_wp2; refine ⟨rfl, ?_⟩
              refine wpG_actor rfl (by kernel_rfl) ?_; go_wp2_with fail
              refine (HRE.out ⟨ir, ys⟩ _ _ (HR.out.below BW.out) (id_shut2 _ _)).mono ?_; rintro e v3 ⟨A4, m4, c4, rfl, hm4, hown4, hb⟩
              have hm418 : m4 ≤ 18 := by rw [hm4]; exact HLN.out _
              have M4 := Lib.hid (show Rep anyB v3 (.sl 36 2 m4 (cat IdD.c (rchL xs ⟨ir, ys⟩)) .nil) [.slice A4 m4 c4] from own_rep hown4 hm4)
              have HM4 := Lib.hid (show m4 = (rchL xs ⟨ir, ys⟩).length from hm4); clear hown4 hm4
              have HB := Lib.hid hb; clear hb
              have X := Lib.hid (HO.out.keptBelowJ HB.out); clear HO
              have HO := Lib.hid X.out; clear X
              have X := Lib.hid (SB.out.below HB.out); clear SB
              have SB := Lib.hid X.out; clear X
              have X := Lib.hid (MO.out.keptBelowJ HB.out); clear MO
              have MO := Lib.hid X.out; clear X
              have X := Lib.hid (BW.out.trans (Below.mono HB.out BW.out.size)); clear BW
              have BW := Lib.hid X.out; clear X
              have X := Lib.hid (cell_below H13.out HB.out); clear H13
              have H13 := Lib.hid X.out; clear X
              have X := Lib.hid (XB.out.below HB.out); clear XB
              have XB := Lib.hid X.out; clear X
              go_wp2; refine ⟨Ext.of_below HB.out, ?_⟩
              clear HB
              refine wpG_actor rfl (by kernel_rfl) ?_; go_wp2_with fail
              refine (l8Has_any (rchL xs ⟨ir, ys⟩) ⟨ir, is⟩ A4 m4 c4 _ _ HM4.out (by omega) M4.out (id_shut2 _ _)).mono ?_
              rintro e v4 ⟨rfl, hb⟩
              rw [HB2.out]
              have HB := Lib.hid hb; clear hb M4 HM4
              have X := Lib.hid (HO.out.keptBelowJ HB.out); clear HO
              have HO := Lib.hid X.out; clear X
              have X := Lib.hid (SB.out.below HB.out); clear SB
              have SB := Lib.hid X.out; clear X
              have X := Lib.hid (MO.out.keptBelowJ HB.out); clear MO
              have MO := Lib.hid X.out; clear X
              have X := Lib.hid (BW.out.trans (Below.mono HB.out BW.out.size)); clear BW
              have BW := Lib.hid X.out; clear X
              have X := Lib.hid (cell_below H13.out HB.out); clear H13
              have H13 := Lib.hid X.out; clear X
              have X := Lib.hid (XB.out.below HB.out); clear XB
              have XB := Lib.hid X.out; clear X
              go_wp2; refine ⟨Ext.of_below HB.out, ?_⟩
              clear HB
              iterate 3 (refine wpG_quiet rfl (by kernel_rfl) rfl ?_; go_wp2; refine ⟨rfl, ?_⟩)
              refine wpG_nil ?_; try simp only [List.drop_succ_cons, List.drop_zero]
              go_wp2
              exact ⟨⟨j + 1, q, g, c', acc, by omega, by go_num, rfl, HQ.out, by omega, HT2.out, HC.out, HO.out, SB.out, MO.out, MN.out, BW.out⟩, by simp only [intOf]; omega⟩
            | true =>
              have HB2 := Lib.hid hb2
              rw [hb2] at hT1
              simp only [HNE.out, decide_false, Bool.false_or, Bool.and_true, if_true] at hT1
              have HT2 := Lib.hid hT1; clear hT1 hb2
              refine wp_region_g 17 (.one 0 (.one 1 (.act 2 (.one 3 (.one 4 (.one 5 (.one 6 (.one 7 (.one 8 (.one 9 (.one 10 (.one 12 (.one 11 (.one 13 (.one 14 (.one 15 (.one 16 .leaf))))))))))))))))) (by kernel_rfl) (by kernel_rfl) ?_
              have X := Lib.hid SB.out.drew; clear SB
              have SB := Lib.hid X.out; clear X
              have X := Lib.hid XB.out.drew; clear XB
              have XB := Lib.hid X.out; clear X
              have X := Lib.hid (MO.out.keptBelowJ (Below.refl _ _).drew); clear MO
              have MO := Lib.hid X.out; clear X
              have X := Lib.hid (BW.out.drew); clear BW
              have BW := Lib.hid X.out; clear X
              have X := Lib.hid (HO.out.keptBelowJ (Below.refl _ _).drew); clear HO
              have HO := Lib.hid X.out; clear X
              have X := Lib.hid (cell_below H13.out (Below.refl _ _).drew); clear H13
              have H13 := Lib.hid X.out; clear X
              refine wpG_quiet rfl (by kernel_rfl) rfl ?_; refine wpList_load_row_g _ (by first | rfl | kernel_rfl) ⟨gx, 0, none⟩ rfl [.int .i64 ir, .int .i64 ys] agg_Id rfl (blk_cells XB.out) ?_; go_wp2; refine ⟨rfl, ?_⟩
              refine wpG_quiet rfl (by kernel_rfl) rfl ?_; refine wpList_load_row_g _ (by first | rfl | kernel_rfl) ⟨w.heap.size, 0, none⟩ rfl [.int .i64 ir, .int .i64 is] agg_Id rfl (blk_cells SB.out) ?_; go_wp2; refine ⟨rfl, ?_⟩
              refine wpG_act rfl ?_; go_wp2
              refine ⟨Ext.refl _, ?_⟩
              iterate 1 (refine wpG_quiet rfl (by kernel_rfl) rfl ?_; go_wp2; refine ⟨rfl, ?_⟩)
              iterate 1 (refine wpG_quiet rfl (by kernel_rfl) rfl ?_; go_wp2; refine ⟨rfl, ?_⟩)
              refine wpG_quiet rfl (by kernel_rfl) rfl ?_; refine wpList_load_row_g _ (by first | rfl | kernel_rfl) ⟨gx, 0, none⟩ rfl [.int .i64 ir, .int .i64 ys] agg_Id rfl (blk_cells XB.out) ?_; go_wp2; refine ⟨rfl, ?_⟩
              refine wpG_actor rfl (by kernel_rfl) ?_; go_wp2_with fail
              refine (l8Has_any (rchL xs ⟨ir, is⟩) ⟨ir, ys⟩ A1 m1 c1 _ _ HM1.out (by omega) (own_rep MO.out HM1.out) (id_shut2 _ _)).mono ?_
              rintro e v2 ⟨rfl, hb⟩
              rw [HB1.out]
              have HB := Lib.hid hb; clear hb
              have X := Lib.hid (HO.out.keptBelowJ HB.out); clear HO
              have HO := Lib.hid X.out; clear X
              have X := Lib.hid (SB.out.below HB.out); clear SB
              have SB := Lib.hid X.out; clear X
              have X := Lib.hid (MO.out.keptBelowJ HB.out); clear MO
              have MO := Lib.hid X.out; clear X
              have X := Lib.hid (BW.out.trans (Below.mono HB.out BW.out.size)); clear BW
              have BW := Lib.hid X.out; clear X
              have X := Lib.hid (cell_below H13.out HB.out); clear H13
              have H13 := Lib.hid X.out; clear X
              have X := Lib.hid (XB.out.below HB.out); clear XB
              have XB := Lib.hid X.out; clear X
              go_wp2; refine ⟨Ext.of_below HB.out, ?_⟩
              clear HB
              iterate 2 (refine wpG_quiet rfl (by kernel_rfl) rfl ?_; go_wp2; refine ⟨rfl, ?_⟩)
              iterate 1 (refine wpG_quiet rfl (by kernel_rfl) rfl ?_; go_wp2; refine ⟨rfl, ?_⟩)
              refine wpG_quiet rfl (by kernel_rfl) rfl ?_; refine wpList_load_row_g _ (by first | rfl | kernel_rfl) ⟨gx, 0, none⟩ rfl [.int .i64 ir, .int .i64 ys] agg_Id rfl (blk_cells XB.out) ?_; go_wp2; refine ⟨rfl, ?_⟩
              refine wpG_quiet rfl (by kernel_rfl) rfl ?_; refine wpList_load_row_g _ (by first | rfl | kernel_rfl) ⟨w.heap.size, 0, none⟩ rfl [.int .i64 ir, .int .i64 is] agg_Id rfl (blk_cells SB.out) ?_; go_wp2; refine ⟨rfl, ?_⟩
              refine wpG_actor rfl (by kernel_rfl) ?_; go_wp2_with fail
              refine (HRE.out ⟨ir, ys⟩ _ _ (HR.out.below BW.out) (id_shut2 _ _)).mono ?_; rintro e v3 ⟨A4, m4, c4, rfl, hm4, hown4, hb⟩
              have hm418 : m4 ≤ 18 := by rw [hm4]; exact HLN.out _
              have M4 := Lib.hid (show Rep anyB v3 (.sl 36 2 m4 (cat IdD.c (rchL xs ⟨ir, ys⟩)) .nil) [.slice A4 m4 c4] from own_rep hown4 hm4)
              have HM4 := Lib.hid (show m4 = (rchL xs ⟨ir, ys⟩).length from hm4); clear hown4 hm4
              have HB := Lib.hid hb; clear hb
              have X := Lib.hid (HO.out.keptBelowJ HB.out); clear HO
              have HO := Lib.hid X.out; clear X
              have X := Lib.hid (SB.out.below HB.out); clear SB
              have SB := Lib.hid X.out; clear X
              have X := Lib.hid (MO.out.keptBelowJ HB.out); clear MO
              have MO := Lib.hid X.out; clear X
              have X := Lib.hid (BW.out.trans (Below.mono HB.out BW.out.size)); clear BW
              have BW := Lib.hid X.out; clear X
              have X := Lib.hid (cell_below H13.out HB.out); clear H13
              have H13 := Lib.hid X.out; clear X
              have X := Lib.hid (XB.out.below HB.out); clear XB
              have XB := Lib.hid X.out; clear X
              go_wp2; refine ⟨Ext.of_below HB.out, ?_⟩
              clear HB
              refine wpG_actor rfl (by kernel_rfl) ?_; go_wp2_with fail
              refine (l8Has_any (rchL xs ⟨ir, ys⟩) ⟨ir, is⟩ A4 m4 c4 _ _ HM4.out (by omega) M4.out (id_shut2 _ _)).mono ?_
              rintro e v4 ⟨rfl, hb⟩
              rw [HB2.out]
              have HB := Lib.hid hb; clear hb M4 HM4
              have X := Lib.hid (HO.out.keptBelowJ HB.out); clear HO
              have HO := Lib.hid X.out; clear X
              have X := Lib.hid (SB.out.below HB.out); clear SB
              have SB := Lib.hid X.out; clear X
              have X := Lib.hid (MO.out.keptBelowJ HB.out); clear MO
              have MO := Lib.hid X.out; clear X
              have X := Lib.hid (BW.out.trans (Below.mono HB.out BW.out.size)); clear BW
              have BW := Lib.hid X.out; clear X
              have X := Lib.hid (cell_below H13.out HB.out); clear H13
              have H13 := Lib.hid X.out; clear X
              have X := Lib.hid (XB.out.below HB.out); clear XB
              have XB := Lib.hid X.out; clear X
              go_wp2; refine ⟨Ext.of_below HB.out, ?_⟩
              clear HB
              iterate 3 (refine wpG_quiet rfl (by kernel_rfl) rfl ?_; go_wp2; refine ⟨rfl, ?_⟩)
              refine wpG_nil ?_; try simp only [List.drop_succ_cons, List.drop_zero]
              go_wp2
              go_loopw [9] (fun tt ws => ∃ m : Nat, m ≤ q ∧ tt = .int .i64 (m : Int) ∧ atF xs acc ⟨ir, ys⟩ q = atF xs acc ⟨ir, ys⟩ m ∧ Below (World.heap (v4)).size (v4) ws) (fun tt _ => (intOf tt).toNat)
              case atStart => exact ⟨q, Nat.le_refl _, rfl, rfl, Below.refl _ _⟩
              case round =>
                obtain ⟨m, hmq, rfl, hat, hbl⟩ := hrel
                have HAT := Lib.hid hat; clear hat
                have CW := Lib.hid hbl; clear hbl
                have X := Lib.hid (HO.out.keptBelowJ CW.out); clear HO
                have HO := Lib.hid X.out; clear X
                have X := Lib.hid (SB.out.below CW.out); clear SB
                have SB := Lib.hid X.out; clear X
                have X := Lib.hid (MO.out.keptBelowJ CW.out); clear MO
                have MO := Lib.hid X.out; clear X
                have X := Lib.hid (BW.out.trans (Below.mono CW.out BW.out.size)); clear BW
                have BW := Lib.hid X.out; clear X
                have X := Lib.hid (cell_below H13.out CW.out); clear H13
                have H13 := Lib.hid X.out; clear X
                have X := Lib.hid (XB.out.below CW.out); clear XB
                have XB := Lib.hid X.out; clear X
                by_cases hm0 : m = 0
                · subst hm0
                  have HA := Lib.hid (show atF xs acc ⟨ir, ys⟩ q = 0 from HAT.out); clear HAT
                  go_wp2
                  refine wp_region_x 21 [0, 1, 2, 3, 4, 5, 6, 7, 8, 9, 14, 15, 16, 17, 18, 10, 11, 12, 13, 19, 20] (by kernel_rfl) (by kernel_rfl) ?_
                  have X := Lib.hid SB.out.drew; clear SB
                  have SB := Lib.hid X.out; clear X
                  have X := Lib.hid XB.out.drew; clear XB
                  have XB := Lib.hid X.out; clear X
                  have X := Lib.hid (MO.out.keptBelowJ (Below.refl _ _).drew); clear MO
                  have MO := Lib.hid X.out; clear X
                  have X := Lib.hid (BW.out.drew); clear BW
                  have BW := Lib.hid X.out; clear X
                  have X := Lib.hid (HO.out.keptBelowJ (Below.refl _ _).drew); clear HO
                  have HO := Lib.hid X.out; clear X
                  have X := Lib.hid (cell_below H13.out (Below.refl _ _).drew); clear H13
                  have H13 := Lib.hid X.out; clear X
                  iterate 3 (refine wpX_quiet rfl (by kernel_rfl) rfl ?_; go_wp2; refine ⟨rfl, ?_⟩)
                  (iterate 6 (refine wpX_skip2 rfl rfl (by kernel_rfl) ?_)); simp only [List.setIfInBounds_toArray, List.set_cons_succ, List.set_cons_zero]; (iterate 6 (refine wpX_skip2 rfl rfl (by kernel_rfl) ?_)); simp only [List.setIfInBounds_toArray, List.set_cons_succ, List.set_cons_zero]; (iterate 5 (refine wpX_skip2 rfl rfl (by kernel_rfl) ?_)); simp only [List.setIfInBounds_toArray, List.set_cons_succ, List.set_cons_zero]
                  iterate 1 (refine wpX_quiet rfl (by kernel_rfl) rfl ?_; go_wp2; refine ⟨rfl, ?_⟩)
                  refine wpX_nil ?_; try simp only [List.drop_succ_cons, List.drop_zero]
                  have hatq : 0 ≤ q := by omega
                  have hT3 := HT2.out
                  rw [insP, ← HQ.out, HA.out] at hT3
                  have HT3 := Lib.hid hT3; clear hT3
                  have hdr := idCells_drop acc 0
                  have hqc : q ≤ c' := (own_some HO.out rfl).elim fun c2 h => by have := h.1; injection this with _ _ e; omega
                  have HRD := Lib.hid (show Reads _ 2 (some ((⟨g, 0, none⟩ : Addr).add (0 * 2))) (q - 0) (idCells (acc.drop 0)) from by rw [← hdr]; exact reads_drop (Reads.of_own (HO.out.alloc (.cells #[] 36))) hatq); clear hdr
                  go_wp2_with (first | (at_builtin; go_must (refine wpList_app E_Id _ rfl (.tmp 68) (.tmp 71) rfl (w.heap.size + 1) _ 0 [] rfl (own_nilAt _ _ _ _ _ rfl (by have h2 := (HO.out.lt g rfl); exact Nat.le_of_lt (Nat.lt_of_le_of_lt h2.1 h2.2))) _ _ _ _ rfl HRD.out (ids_one _) (by omega) (by have h3 := (HO.out.lt g rfl).1; have h2 := (HO.out.lt g rfl).2; simp at h2 ⊢; omega) ?_; intro v6 w6 hown6 hg6 hat6; have D6 := Lib.hid (show Below (World.heap (World.drew wr)).size (World.drew wr) w6 from Below.grown (show Below (World.heap (World.drew wr)).size (World.drew wr) (World.alloc (World.drew wr) (.cells #[] 36)) from (Below.refl _ _).alloc (Nat.le_refl _) _) hg6 (by simp) (fun k hk => by have hk2 : (Value.slice (some ⟨(World.heap (World.drew wr)).size, 0, none⟩) 0 0).ownBlock = some k := hk; simp [Value.ownBlock] at hk2; simp; omega)); have O6 := Lib.hid hown6; have T6 := Lib.hid (show (∃ k, v6.ownBlock = some k) from hat6.elim (fun h => ⟨_, h⟩) (fun h => ⟨_, h⟩)); have F6 := Lib.hid (show ∀ k, v6.ownBlock = some k → g < k from fun k hk => by have h3 := (HO.out.lt g rfl).2; have hat7 : v6.ownBlock = (Value.slice (some ⟨(World.heap (World.drew wr)).size, 0, none⟩) 0 0).ownBlock ∨ v6.ownBlock = some (World.heap (World.alloc (World.drew wr) (.cells #[] 36))).size := hat6; rcases hat7 with h | h <;> (rw [h] at hk; simp [Value.ownBlock] at hk h3; omega)); clear hown6 hg6 hat6)) | fail)
                  clear HRD
                  have X := Lib.hid (HO.out.keptBelowJ D6.out); clear HO
                  have HO := Lib.hid X.out; clear X
                  have X := Lib.hid (SB.out.below D6.out); clear SB
                  have SB := Lib.hid X.out; clear X
                  have X := Lib.hid (MO.out.keptBelowJ D6.out); clear MO
                  have MO := Lib.hid X.out; clear X
                  have X := Lib.hid (BW.out.trans (Below.mono D6.out BW.out.size)); clear BW
                  have BW := Lib.hid X.out; clear X
                  have X := Lib.hid (cell_below H13.out D6.out); clear H13
                  have H13 := Lib.hid X.out; clear X
                  have X := Lib.hid (XB.out.below D6.out); clear XB
                  have XB := Lib.hid X.out; clear X
                  clear D6
                  obtain ⟨g6, hg6⟩ := T6.out
                  obtain ⟨c6, hv6, _⟩ := own_some O6.out hg6
                  have hgg := F6.out g6 hg6
                  obtain ⟨nr, hnr⟩ : ∃ nr, nr = 0 + q := ⟨_, rfl⟩
                  obtain ⟨lr, hlr⟩ : ∃ lr, lr = [] ++ idCells (acc.drop 0) := ⟨_, rfl⟩
                  have hv7 : v6 = .slice (some ⟨g6, 0, none⟩) nr c6 := by rw [hnr]; exact hv6
                  have X := Lib.hid (show World.ownsRow _ _ _ _ _ nr lr from by rw [hnr, hlr]; exact O6.out); clear O6 hv6
                  have O6 := Lib.hid X.out; clear X
                  subst hv7
                  have hnq : nr ≤ q := by omega
                  have HNR := Lib.hid hnr; clear hnr
                  have HLR := Lib.hid hlr; clear hlr
                  clear T6 F6 hg6
                  refine wp_region_h 5 [6] [0, 1, 2, 3, 4] [5, 7, 8] (by kernel_rfl) (by kernel_rfl) ?_
                  have X := Lib.hid SB.out.drew; clear SB
                  have SB := Lib.hid X.out; clear X
                  have X := Lib.hid XB.out.drew; clear XB
                  have XB := Lib.hid X.out; clear X
                  have X := Lib.hid (MO.out.keptBelowJ (Below.refl _ _).drew); clear MO
                  have MO := Lib.hid X.out; clear X
                  have X := Lib.hid (BW.out.drew); clear BW
                  have BW := Lib.hid X.out; clear X
                  have X := Lib.hid (HO.out.keptBelowJ (Below.refl _ _).drew); clear HO
                  have HO := Lib.hid X.out; clear X
                  have X := Lib.hid (cell_below H13.out (Below.refl _ _).drew); clear H13
                  have H13 := Lib.hid X.out; clear X
                  have X := Lib.hid (O6.out.keptBelowJ (Below.refl _ _).drew); clear O6
                  have O6 := Lib.hid X.out; clear X
                  refine wpFl_step rfl ?_; go_wp2; refine ⟨rfl, ?_⟩
                  refine wpFl_nil ?_
                  iterate 3 (refine wpH_quiet rfl rfl (by kernel_rfl) rfl ?_; go_wp2; refine ⟨rfl, ?_⟩)
                  refine wpH_quiet rfl rfl (by kernel_rfl) rfl ?_; refine wpList_load_row_g _ (by first | rfl | kernel_rfl) ⟨gx, 0, none⟩ rfl [.int .i64 ir, .int .i64 ys] agg_Id rfl (blk_cells XB.out) ?_; go_wp2; refine ⟨rfl, ?_⟩
                  refine wpH_actor rfl rfl (by kernel_rfl) ?_
                  go_wp2
                  refine ⟨Ext.alloc (Ext.refl _) _, ?_⟩
                  refine wpH_nil ?_
                  simp only [pickOps, List.getElem?_toArray, List.getElem?_cons_succ, List.getElem?_cons_zero]
                  have hgw := HO.out.lt g rfl
                  have h6w := O6.out.lt g6 rfl
                  have hto := own_take HO.out hatq
                  rw [idCells_take] at hto
                  have HTO := Lib.hid hto; clear hto
                  have HRS := Lib.hid (Reads.of_own O6.out)
                  go_wp2_with (first
                    | (at_builtin; refine wpList_app E_Id _ rfl (.tmp 75) (.tmp 77) rfl (w.heap.size + 1) _ 0 _ rfl (HTO.out.alloc _) _ _ _ _ rfl (Reads.new (e := 36) rfl) (by intro u hu; simp at hu; rcases hu with rfl | rfl <;> rfl) (by omega) (by simp at hgw ⊢; omega) ?_; intro v7 w7 hown7 hg7 hat7; have O7 := Lib.hid hown7; have G7 := Lib.hid hg7; have A7 := Lib.hid (show v7.ownBlock = some g ∨ v7.ownBlock = some _ from hat7); have R7 := Lib.hid (show Reads w7 2 (some ⟨g6, 0, none⟩) nr lr from ⟨HRS.out.1, fun h0 => ⟨_, rfl, fun jj u hu => by obtain ⟨_, e6, hc6⟩ := HRS.out.2 h0; injection e6 with e6; subst e6; have h8 := hc6 jj u hu; rw [World.cell?_of_block (hg7.block _ (by simp at h6w ⊢; rw [add_plain]; simp; omega) (fun e => by injection e with e; rw [add_plain] at e; simp at e; omega))]; exact ((Below.refl _ _).alloc (Nat.le_refl _) _).cell (by rw [add_plain]; exact h6w.2) |>.trans h8⟩⟩); clear hown7 hg7 hat7)
                    | (at_builtin; go_must (refine wpList_app E_Id _ rfl (.tmp 78) (.tmp 79) rfl (w.heap.size + 1) _ (0 + 1) _ rfl O7.out _ _ _ _ rfl R7.out (by rw [HLR.out]; simpa using ids_one (acc.drop 0)) (by omega) (Nat.le_trans (by simp at hgw ⊢; omega) G7.out.size) ?_; intro v8 w8 hown8 hg8 hat8; have O8 := Lib.hid hown8; have G8 := Lib.hid hg8; have A8 := Lib.hid hat8; clear hown8 hg8 hat8))
                    | fail)
                  refine ⟨trivial, ?_⟩
                  have hq1 : 0 + 1 + nr = q + 1 := by have := HNR.out; omega
                  have hO8 := O8.out
                  have hce : idCells (acc.take 0) ++ [.int .i64 ir, .int .i64 ys] ++ lr = idCells (acc.take 0 ++ ⟨ir, ys⟩ :: acc.drop 0) := by rw [HLR.out, idCells_app]; simp [idCells]
                  have hO9 : World.ownsRow w8 (w.heap.size + 1) 36 2 v8 (q + 1) (idCells (acc.take 0 ++ ⟨ir, ys⟩ :: acc.drop 0)) := by rw [← hq1, ← hce]; exact hO8
                  clear hO8
                  have hA7 : v7.ownBlock = some g ∨ v7.ownBlock = some (World.heap w6).size.succ := A7.out.imp id (fun h => h.trans (by simp))
                  have hG7 : World.grownBy (World.alloc (World.drew w6) (.cells #[.int .i64 ir, .int .i64 ys] 36)) w7 (some g) := G7.out
                  have hG8 : World.grownBy w7 w8 v7.ownBlock := G8.out
                  have hA8 : v8.ownBlock = v7.ownBlock ∨ v8.ownBlock = some (World.heap w7).size := A8.out
                  have hs7 : (World.heap w6).size.succ ≤ (World.heap w7).size := Nat.le_trans (by simp) hG7.size
                  obtain ⟨g8, c8, rfl, _, hg8⟩ := own_some0 hO9 (Nat.succ_pos q)
                  have hg8c : g8 = g ∨ (World.heap w6).size < g8 := by rcases hA8 with h | h; (rcases hA7 with h2 | h2 <;> (rw [h2] at h; injection h with h; simp at h; omega)); (injection h with h; simp at h; omega)
                  have hk8 : ∀ b, b < (World.heap w6).size → b ≠ g → w8.heap[b]? = w6.heap[b]? := fun b hb hne => (hG8.block b (by omega) (fun e => by rcases hA7 with h2 | h2 <;> (rw [h2] at e; injection e with e; omega))).trans ((hG7.block b (by simp; omega) (fun e => by injection e with e; exact hne e)).trans (((Below.refl _ (World.drew w6)).alloc (Nat.le_refl _) _).block b hb))
                  have hgb : w.heap.size < g ∧ g < (World.heap w6).size := ⟨by have := hgw.1; omega, hgw.2⟩
                  have hbw : Below w.heap.size w w8 := ⟨hG8.os.trans (hG7.os.trans BW.out.os), hG8.tape.trans (hG7.tape.trans BW.out.tape), hG8.output.trans (hG7.output.trans BW.out.output), Nat.le_trans BW.out.size (Nat.le_trans (by simp) (Nat.le_trans hs7 hG8.size)), fun b hb => (hk8 b (by omega) (by omega)).trans (BW.out.block b hb)⟩
                  have Z1 := Lib.hid hbw
                  have Z2 := Lib.hid (SB.out.keep (hk8 _ (by omega) (by omega)))
                  have Z3 := Lib.hid (ownsRow_keep (base' := w.heap.size) MO.out (fun b hb => ⟨(MO.out.lt b hb).1, hk8 b (MO.out.lt b hb).2 (MN.out b hb)⟩))
                  have Z4 := Lib.hid (show ∀ b, (Value.slice A1 m1 c1).ownBlock = some b → b ≠ g8 from fun b hb e => by have h1 := MN.out b hb; have h2 := (MO.out.lt b hb).2; have h3 : b < (World.heap w6).size := h2; omega)
                  have Z5 := Lib.hid (show ∀ y ∈ acc.take 0 ++ ⟨ir, ys⟩ :: acc.drop 0, comB xs y = true from fun y hy => by rcases List.mem_append.1 hy with h | h; (exact HC.out y (List.mem_of_mem_take h)); (rcases List.mem_cons.1 h with rfl | h; (exact HCY.out); (exact HC.out y (List.mem_of_mem_drop h))))
                  have Z6 := Lib.hid hO9
                  have Z7 := Lib.hid (show q + 1 = (acc.take 0 ++ ⟨ir, ys⟩ :: acc.drop 0).length from by rw [List.length_append, List.length_cons, List.length_take, List.length_drop, ← HQ.out]; omega)
                  clear hO9 hA7 hG7 hG8 hA8 hs7 hg8 hg8c hk8 hgb hbw hq1 hce O8 G8 A8 O7 G7 A7 R7 HRS HTO O6 HNR HLR
                  go_wp2
                  exact ⟨⟨j + 1, q + 1, g8, c8, _, by omega, by go_num, rfl, Z7.out, by omega, HT3.out, Z5.out, Z6.out, Z2.out, Z3.out, Z4.out, Z1.out⟩, by simp only [intOf]; omega⟩
                · obtain ⟨m', rfl⟩ : ∃ m', m = m' + 1 := ⟨m - 1, by omega⟩
                  have hmx : m' < acc.length := by have := HQ.out; omega
                  have hgd : acc.getD m' ⟨ir, ys⟩ = acc[m'] := by rw [List.getD_eq_getElem?_getD, List.getElem?_eq_getElem hmx, Option.getD_some]
                  have hat2 := HAT.out
                  rw [atF, hgd, HSQ.out] at hat2
                  obtain ⟨_, hra, hrz⟩ := reads_id (Reads.of_own HO.out) HQ.out m' hmx
                  injection hra with hra
                  subst hra
                  have hcz := HC.out (acc[m']'hmx) (List.getElem_mem hmx)
                  have HFZ := Lib.hid (fun cs W h h' => HFI.out (acc[m']'hmx) cs W h h')
                  have HZQ := Lib.hid (fun j2 hj2 hh => HSEQ.out (acc[m']'hmx) j2 hj2 hh)
                  have HZC := Lib.hid hrz; clear hrz hgd
                  have HAT2 := Lib.hid hat2; clear hat2 HAT
                  have HCZ := Lib.hid hcz; clear hcz
                  generalize acc[m'] = z at *
                  obtain ⟨zr, zs⟩ := z
                  simp only [] at HZC HFZ
                  have h13 := H13.out
                  have hm1 : ((m' : Int) + 1 - 1) = (m' : Int) := by omega
                  go_wp2
                  refine wp_region_x 21 [0, 1, 2, 3, 4, 5, 6, 7, 8, 9, 14, 15, 16, 17, 18, 10, 11, 12, 13, 19, 20] (by kernel_rfl) (by kernel_rfl) ?_
                  clear h13
                  have X := Lib.hid SB.out.drew; clear SB
                  have SB := Lib.hid X.out; clear X
                  have X := Lib.hid XB.out.drew; clear XB
                  have XB := Lib.hid X.out; clear X
                  have X := Lib.hid (MO.out.keptBelowJ (Below.refl _ _).drew); clear MO
                  have MO := Lib.hid X.out; clear X
                  have X := Lib.hid (BW.out.drew); clear BW
                  have BW := Lib.hid X.out; clear X
                  have X := Lib.hid (HO.out.keptBelowJ (Below.refl _ _).drew); clear HO
                  have HO := Lib.hid X.out; clear X
                  have X := Lib.hid (cell_below H13.out (Below.refl _ _).drew); clear H13
                  have H13 := Lib.hid X.out; clear X
                  iterate 9 (refine wpX_quiet rfl (by kernel_rfl) rfl ?_; go_wp2; refine ⟨rfl, ?_⟩)
                  have HZD := Lib.hid (show ∀ f u, [Value.int .i64 zr, .int .i64 zs][f]? = some u → _ from fun f u hu => by have h1 := HZC.out f u hu; rw [add_plain, Nat.zero_add] at h1; exact h1)
                  refine wpX_quiet rfl (by kernel_rfl) rfl ?_; go_wp2_with (first | (first | refine wpList_load_row_g _ (by first | rfl | kernel_rfl) ⟨g, m' * 2, none⟩ rfl [.int .i64 zr, .int .i64 zs] agg_Id rfl HZD.out ?_ | refine wpList_load_row_g _ (by first | rfl | kernel_rfl) ((⟨g, 0, none⟩ : Addr).add (m' * 2)) rfl [.int .i64 zr, .int .i64 zs] agg_Id rfl HZC.out ?_) | fail); refine ⟨rfl, ?_⟩
                  iterate 4 (refine wpX_quiet rfl (by kernel_rfl) rfl ?_; go_wp2; refine ⟨rfl, ?_⟩)
                  have h13 := H13.out
                  iterate 1 (refine wpX_quiet rfl (by kernel_rfl) rfl ?_; go_wp2; refine ⟨rfl, ?_⟩)
                  clear h13 HZC HZD
                  refine wpX_actor rfl (by kernel_rfl) ?_; go_wp2_with fail
                  refine (HFZ.out _ _ (HR.out.below BW.out) (id_shut2 _ _)).mono ?_; rintro e v5 ⟨r, rfl, hr, hb⟩
                  have HB := Lib.hid hb; clear hb
                  have X := Lib.hid (HO.out.keptBelowJ HB.out); clear HO
                  have HO := Lib.hid X.out; clear X
                  have X := Lib.hid (SB.out.below HB.out); clear SB
                  have SB := Lib.hid X.out; clear X
                  have X := Lib.hid (MO.out.keptBelowJ HB.out); clear MO
                  have MO := Lib.hid X.out; clear X
                  have X := Lib.hid (BW.out.trans (Below.mono HB.out BW.out.size)); clear BW
                  have BW := Lib.hid X.out; clear X
                  have X := Lib.hid (cell_below H13.out HB.out); clear H13
                  have H13 := Lib.hid X.out; clear X
                  have X := Lib.hid (XB.out.below HB.out); clear XB
                  have XB := Lib.hid X.out; clear X
                  have X := Lib.hid ((CW.out.drew).trans (Below.mono HB.out CW.out.size)); clear CW
                  have CW := Lib.hid X.out; clear X
                  rcases hr with ⟨j2, hj2, rfl, _, _, hz2⟩ | ⟨rfl, hc2, _⟩
                  rotate_left
                  · rw [HCZ.out] at hc2; cases hc2
                  have hsz := HZQ.out j2 hj2 hz2
                  rw [hsz] at HAT2
                  obtain ⟨ad2, cj, he2, _, _, hrc2, hl2, hc2⟩ := (HR.out.below BW.out).elem InstD.width j2 hj2 HN.out
                  injection he2 with he2
                  subst he2
                  obtain ⟨_, _, _, _, rfl, _⟩ := InstD.open hrc2
                  have H2 := Lib.hid (show v5.cell? ⟨(ad.add (j2 * 16)).block, (ad.add (j2 * 16)).off + 13, none⟩ = some (Value.int .i64 xs[j2].seq) from hc2 13 _ rfl); clear hc2 hrc2 hl2 hz2 hsz
                  have hj2n : j2 < n := by have := HN.out; omega
                  generalize xs[j2].seq = sz at *
                  go_wp2; refine ⟨Ext.of_below HB.out, ?_⟩
                  clear HB
                  iterate 2 (refine wpX_quiet rfl (by kernel_rfl) rfl ?_; go_wp2; refine ⟨rfl, ?_⟩)
                  have h2 := H2.out
                  iterate 1 (refine wpX_quiet rfl (by kernel_rfl) rfl ?_; go_wp2; refine ⟨rfl, ?_⟩)
                  clear h2 H2
                  by_cases hgt : sq < sz
                  · have d1 : decide (sq < sz) = true := by simpa using hgt
                    have hat3 := HAT2.out
                    rw [if_pos hgt] at hat3
                    have HAT3 := Lib.hid hat3; clear hat3
                    iterate 2 (refine wpX_quiet rfl (by kernel_rfl) rfl ?_; go_wp2; refine ⟨rfl, ?_⟩)
                    refine wpX_nil ?_; try simp only [List.drop_succ_cons, List.drop_zero]
                    go_wp2
                    exact ⟨⟨m', by omega, by go_num, HAT3.out, CW.out⟩, by simp only [intOf]; omega⟩
                  · have d1 : decide (sq < sz) = false := by simpa using hgt
                    have hat3 := HAT2.out
                    rw [if_neg hgt] at hat3
                    have HA := Lib.hid hat3; clear hat3
                    iterate 2 (refine wpX_quiet rfl (by kernel_rfl) rfl ?_; go_wp2; refine ⟨rfl, ?_⟩)
                    refine wpX_nil ?_; try simp only [List.drop_succ_cons, List.drop_zero]
                    have hqc0 : q ≤ c' := (own_some HO.out rfl).elim fun c2 h => by have := h.1; injection this with _ _ e; omega
                    by_cases hcc : c' = (m' + 1)
                    · subst hcc
                      have hatq : (m' + 1) ≤ q := by omega
                      have hT3 := HT2.out
                      rw [insP, ← HQ.out, HA.out] at hT3
                      have HT3 := Lib.hid hT3; clear hT3
                      have hdr := idCells_drop acc (m' + 1)
                      have hqc : q ≤ (m' + 1) := hqc0
                      have HRD := Lib.hid (show Reads (World.alloc (v5) (.cells #[] 36)) 2 (some (⟨g, 0, none⟩ : Addr)) 0 (idCells (acc.drop (m' + 1))) from by rw [← hdr]; have h8 := reads_drop (Reads.of_own (HO.out.alloc (.cells #[] 36))) hatq; exact ⟨by have h9 := h8.1; omega, fun h0 => by omega⟩); clear hdr
                      go_wp2_with (first | (at_builtin; go_must (refine wpList_app E_Id _ rfl (.tmp 68) (.tmp 71) rfl (w.heap.size + 1) _ 0 [] rfl (own_nilAt _ _ _ _ _ rfl (by have h2 := (HO.out.lt g rfl); exact Nat.le_of_lt (Nat.lt_of_le_of_lt h2.1 h2.2))) _ _ _ _ rfl HRD.out (ids_one _) (by omega) (by have h3 := (HO.out.lt g rfl).1; have h2 := (HO.out.lt g rfl).2; simp at h2 ⊢; omega) ?_; intro v6 w6 hown6 hg6 hat6; have D6 := Lib.hid (show Below (World.heap (v5)).size (v5) w6 from Below.grown (show Below (World.heap (v5)).size (v5) (World.alloc (v5) (.cells #[] 36)) from (Below.refl _ _).alloc (Nat.le_refl _) _) hg6 (by simp) (fun k hk => by have hk2 : (Value.slice (some ⟨(World.heap (v5)).size, 0, none⟩) 0 0).ownBlock = some k := hk; simp [Value.ownBlock] at hk2; simp; omega)); have O6 := Lib.hid hown6; have T6 := Lib.hid (show (∃ k, v6.ownBlock = some k) from hat6.elim (fun h => ⟨_, h⟩) (fun h => ⟨_, h⟩)); have F6 := Lib.hid (show ∀ k, v6.ownBlock = some k → g < k from fun k hk => by have h3 := (HO.out.lt g rfl).2; have hat7 : v6.ownBlock = (Value.slice (some ⟨(World.heap (v5)).size, 0, none⟩) 0 0).ownBlock ∨ v6.ownBlock = some (World.heap (World.alloc (v5) (.cells #[] 36))).size := hat6; rcases hat7 with h | h <;> (rw [h] at hk; simp [Value.ownBlock] at hk h3; omega)); clear hown6 hg6 hat6)) | fail)
                      clear HRD
                      have X := Lib.hid (HO.out.keptBelowJ D6.out); clear HO
                      have HO := Lib.hid X.out; clear X
                      have X := Lib.hid (SB.out.below D6.out); clear SB
                      have SB := Lib.hid X.out; clear X
                      have X := Lib.hid (MO.out.keptBelowJ D6.out); clear MO
                      have MO := Lib.hid X.out; clear X
                      have X := Lib.hid (BW.out.trans (Below.mono D6.out BW.out.size)); clear BW
                      have BW := Lib.hid X.out; clear X
                      have X := Lib.hid (cell_below H13.out D6.out); clear H13
                      have H13 := Lib.hid X.out; clear X
                      have X := Lib.hid (XB.out.below D6.out); clear XB
                      have XB := Lib.hid X.out; clear X
                      clear D6
                      obtain ⟨g6, hg6⟩ := T6.out
                      obtain ⟨c6, hv6, _⟩ := own_some O6.out hg6
                      have hgg := F6.out g6 hg6
                      obtain ⟨nr, hnr⟩ : ∃ nr, nr = 0 := ⟨_, rfl⟩
                      obtain ⟨lr, hlr⟩ : ∃ lr, lr = [] ++ idCells (acc.drop (m' + 1)) := ⟨_, rfl⟩
                      have hv7 : v6 = .slice (some ⟨g6, 0, none⟩) nr c6 := by rw [hnr]; exact hv6
                      have X := Lib.hid (show World.ownsRow _ _ _ _ _ nr lr from by rw [hnr, hlr]; exact O6.out); clear O6 hv6
                      have O6 := Lib.hid X.out; clear X
                      subst hv7
                      have hnq : nr ≤ q := by omega
                      have HNR := Lib.hid hnr; clear hnr
                      have HLR := Lib.hid hlr; clear hlr
                      clear T6 F6 hg6
                      refine wp_region_h 5 [6] [0, 1, 2, 3, 4] [5, 7, 8] (by kernel_rfl) (by kernel_rfl) ?_
                      have X := Lib.hid SB.out.drew; clear SB
                      have SB := Lib.hid X.out; clear X
                      have X := Lib.hid XB.out.drew; clear XB
                      have XB := Lib.hid X.out; clear X
                      have X := Lib.hid (MO.out.keptBelowJ (Below.refl _ _).drew); clear MO
                      have MO := Lib.hid X.out; clear X
                      have X := Lib.hid (BW.out.drew); clear BW
                      have BW := Lib.hid X.out; clear X
                      have X := Lib.hid (HO.out.keptBelowJ (Below.refl _ _).drew); clear HO
                      have HO := Lib.hid X.out; clear X
                      have X := Lib.hid (cell_below H13.out (Below.refl _ _).drew); clear H13
                      have H13 := Lib.hid X.out; clear X
                      have X := Lib.hid (O6.out.keptBelowJ (Below.refl _ _).drew); clear O6
                      have O6 := Lib.hid X.out; clear X
                      refine wpFl_step rfl ?_; go_wp2; refine ⟨rfl, ?_⟩
                      refine wpFl_nil ?_
                      iterate 3 (refine wpH_quiet rfl rfl (by kernel_rfl) rfl ?_; go_wp2; refine ⟨rfl, ?_⟩)
                      refine wpH_quiet rfl rfl (by kernel_rfl) rfl ?_; refine wpList_load_row_g _ (by first | rfl | kernel_rfl) ⟨gx, 0, none⟩ rfl [.int .i64 ir, .int .i64 ys] agg_Id rfl (blk_cells XB.out) ?_; go_wp2; refine ⟨rfl, ?_⟩
                      refine wpH_actor rfl rfl (by kernel_rfl) ?_
                      go_wp2
                      refine ⟨Ext.alloc (Ext.refl _) _, ?_⟩
                      refine wpH_nil ?_
                      simp only [pickOps, List.getElem?_toArray, List.getElem?_cons_succ, List.getElem?_cons_zero]
                      have hgw := HO.out.lt g rfl
                      have h6w := O6.out.lt g6 rfl
                      have hto := own_take HO.out hatq
                      rw [idCells_take] at hto
                      have HTO := Lib.hid hto; clear hto
                      have HRS := Lib.hid (Reads.of_own O6.out)
                      go_wp2_with (first
                        | (at_builtin; refine wpList_app E_Id _ rfl (.tmp 75) (.tmp 77) rfl (w.heap.size + 1) _ (m' + 1) _ rfl (HTO.out.alloc _) _ _ _ _ rfl (Reads.new (e := 36) rfl) (by intro u hu; simp at hu; rcases hu with rfl | rfl <;> rfl) (by omega) (by simp at hgw ⊢; omega) ?_; intro v7 w7 hown7 hg7 hat7; have O7 := Lib.hid hown7; have G7 := Lib.hid hg7; have A7 := Lib.hid (show v7.ownBlock = some g ∨ v7.ownBlock = some _ from hat7); have R7 := Lib.hid (show Reads w7 2 (some ⟨g6, 0, none⟩) nr lr from ⟨HRS.out.1, fun h0 => ⟨_, rfl, fun jj u hu => by obtain ⟨_, e6, hc6⟩ := HRS.out.2 h0; injection e6 with e6; subst e6; have h8 := hc6 jj u hu; rw [World.cell?_of_block (hg7.block _ (by simp at h6w ⊢; rw [add_plain]; simp; omega) (fun e => by injection e with e; rw [add_plain] at e; simp at e; omega))]; exact ((Below.refl _ _).alloc (Nat.le_refl _) _).cell (by rw [add_plain]; exact h6w.2) |>.trans h8⟩⟩); clear hown7 hg7 hat7)
                        | (at_builtin; go_must (refine wpList_app E_Id _ rfl (.tmp 78) (.tmp 79) rfl (w.heap.size + 1) _ ((m' + 1) + 1) _ rfl O7.out _ _ _ _ rfl R7.out (by rw [HLR.out]; simpa using ids_one (acc.drop (m' + 1))) (by omega) (Nat.le_trans (by simp at hgw ⊢; omega) G7.out.size) ?_; intro v8 w8 hown8 hg8 hat8; have O8 := Lib.hid hown8; have G8 := Lib.hid hg8; have A8 := Lib.hid hat8; clear hown8 hg8 hat8))
                        | fail)
                      refine ⟨trivial, ?_⟩
                      have hq1 : (m' + 1) + 1 + nr = q + 1 := by have := HNR.out; omega
                      have hO8 := O8.out
                      have hce : idCells (acc.take (m' + 1)) ++ [.int .i64 ir, .int .i64 ys] ++ lr = idCells (acc.take (m' + 1) ++ ⟨ir, ys⟩ :: acc.drop (m' + 1)) := by rw [HLR.out, idCells_app]; simp [idCells]
                      have hO9 : World.ownsRow w8 (w.heap.size + 1) 36 2 v8 (q + 1) (idCells (acc.take (m' + 1) ++ ⟨ir, ys⟩ :: acc.drop (m' + 1))) := by rw [← hq1, ← hce]; exact hO8
                      clear hO8
                      have hA7 : v7.ownBlock = some g ∨ v7.ownBlock = some (World.heap w6).size.succ := A7.out.imp id (fun h => h.trans (by simp))
                      have hG7 : World.grownBy (World.alloc (World.drew w6) (.cells #[.int .i64 ir, .int .i64 ys] 36)) w7 (some g) := G7.out
                      have hG8 : World.grownBy w7 w8 v7.ownBlock := G8.out
                      have hA8 : v8.ownBlock = v7.ownBlock ∨ v8.ownBlock = some (World.heap w7).size := A8.out
                      have hs7 : (World.heap w6).size.succ ≤ (World.heap w7).size := Nat.le_trans (by simp) hG7.size
                      obtain ⟨g8, c8, rfl, _, hg8⟩ := own_some0 hO9 (Nat.succ_pos q)
                      have hg8c : g8 = g ∨ (World.heap w6).size < g8 := by rcases hA8 with h | h; (rcases hA7 with h2 | h2 <;> (rw [h2] at h; injection h with h; simp at h; omega)); (injection h with h; simp at h; omega)
                      have hk8 : ∀ b, b < (World.heap w6).size → b ≠ g → w8.heap[b]? = w6.heap[b]? := fun b hb hne => (hG8.block b (by omega) (fun e => by rcases hA7 with h2 | h2 <;> (rw [h2] at e; injection e with e; omega))).trans ((hG7.block b (by simp; omega) (fun e => by injection e with e; exact hne e)).trans (((Below.refl _ (World.drew w6)).alloc (Nat.le_refl _) _).block b hb))
                      have hgb : w.heap.size < g ∧ g < (World.heap w6).size := ⟨by have := hgw.1; omega, hgw.2⟩
                      have hbw : Below w.heap.size w w8 := ⟨hG8.os.trans (hG7.os.trans BW.out.os), hG8.tape.trans (hG7.tape.trans BW.out.tape), hG8.output.trans (hG7.output.trans BW.out.output), Nat.le_trans BW.out.size (Nat.le_trans (by simp) (Nat.le_trans hs7 hG8.size)), fun b hb => (hk8 b (by omega) (by omega)).trans (BW.out.block b hb)⟩
                      have Z1 := Lib.hid hbw
                      have Z2 := Lib.hid (SB.out.keep (hk8 _ (by omega) (by omega)))
                      have Z3 := Lib.hid (ownsRow_keep (base' := w.heap.size) MO.out (fun b hb => ⟨(MO.out.lt b hb).1, hk8 b (MO.out.lt b hb).2 (MN.out b hb)⟩))
                      have Z4 := Lib.hid (show ∀ b, (Value.slice A1 m1 c1).ownBlock = some b → b ≠ g8 from fun b hb e => by have h1 := MN.out b hb; have h2 := (MO.out.lt b hb).2; have h3 : b < (World.heap w6).size := h2; omega)
                      have Z5 := Lib.hid (show ∀ y ∈ acc.take (m' + 1) ++ ⟨ir, ys⟩ :: acc.drop (m' + 1), comB xs y = true from fun y hy => by rcases List.mem_append.1 hy with h | h; (exact HC.out y (List.mem_of_mem_take h)); (rcases List.mem_cons.1 h with rfl | h; (exact HCY.out); (exact HC.out y (List.mem_of_mem_drop h))))
                      have Z6 := Lib.hid hO9
                      have Z7 := Lib.hid (show q + 1 = (acc.take (m' + 1) ++ ⟨ir, ys⟩ :: acc.drop (m' + 1)).length from by rw [List.length_append, List.length_cons, List.length_take, List.length_drop, ← HQ.out]; omega)
                      clear hO9 hA7 hG7 hG8 hA8 hs7 hg8 hg8c hk8 hgb hbw hq1 hce O8 G8 A8 O7 G7 A7 R7 HRS HTO O6 HNR HLR
                      go_wp2
                      exact ⟨⟨j + 1, q + 1, g8, c8, _, by omega, by go_num, rfl, Z7.out, by omega, HT3.out, Z5.out, Z6.out, Z2.out, Z3.out, Z4.out, Z1.out⟩, by simp only [intOf]; omega⟩
                    · skip
                      have hatq : (m' + 1) ≤ q := by omega
                      have hT3 := HT2.out
                      rw [insP, ← HQ.out, HA.out] at hT3
                      have HT3 := Lib.hid hT3; clear hT3
                      have hdr := idCells_drop acc (m' + 1)
                      have hqc : q ≤ c' := hqc0
                      have HRD := Lib.hid (show Reads (World.alloc (v5) (.cells #[] 36)) 2 (some (⟨g, (m' + 1) * 2, none⟩ : Addr)) (q - (m' + 1)) (idCells (acc.drop (m' + 1))) from by rw [← hdr]; have h8 := reads_drop (Reads.of_own (HO.out.alloc (.cells #[] 36))) hatq; rw [add_plain, Nat.zero_add] at h8; exact h8); clear hdr
                      go_wp2_with (first | (at_builtin; go_must (refine wpList_app E_Id _ rfl (.tmp 68) (.tmp 71) rfl (w.heap.size + 1) _ 0 [] rfl (own_nilAt _ _ _ _ _ rfl (by have h2 := (HO.out.lt g rfl); exact Nat.le_of_lt (Nat.lt_of_le_of_lt h2.1 h2.2))) _ _ _ _ rfl HRD.out (ids_one _) (by omega) (by have h3 := (HO.out.lt g rfl).1; have h2 := (HO.out.lt g rfl).2; simp at h2 ⊢; omega) ?_; intro v6 w6 hown6 hg6 hat6; have D6 := Lib.hid (show Below (World.heap (v5)).size (v5) w6 from Below.grown (show Below (World.heap (v5)).size (v5) (World.alloc (v5) (.cells #[] 36)) from (Below.refl _ _).alloc (Nat.le_refl _) _) hg6 (by simp) (fun k hk => by have hk2 : (Value.slice (some ⟨(World.heap (v5)).size, 0, none⟩) 0 0).ownBlock = some k := hk; simp [Value.ownBlock] at hk2; simp; omega)); have O6 := Lib.hid hown6; have T6 := Lib.hid (show (∃ k, v6.ownBlock = some k) from hat6.elim (fun h => ⟨_, h⟩) (fun h => ⟨_, h⟩)); have F6 := Lib.hid (show ∀ k, v6.ownBlock = some k → g < k from fun k hk => by have h3 := (HO.out.lt g rfl).2; have hat7 : v6.ownBlock = (Value.slice (some ⟨(World.heap (v5)).size, 0, none⟩) 0 0).ownBlock ∨ v6.ownBlock = some (World.heap (World.alloc (v5) (.cells #[] 36))).size := hat6; rcases hat7 with h | h <;> (rw [h] at hk; simp [Value.ownBlock] at hk h3; omega)); clear hown6 hg6 hat6)) | fail)
                      clear HRD
                      have X := Lib.hid (HO.out.keptBelowJ D6.out); clear HO
                      have HO := Lib.hid X.out; clear X
                      have X := Lib.hid (SB.out.below D6.out); clear SB
                      have SB := Lib.hid X.out; clear X
                      have X := Lib.hid (MO.out.keptBelowJ D6.out); clear MO
                      have MO := Lib.hid X.out; clear X
                      have X := Lib.hid (BW.out.trans (Below.mono D6.out BW.out.size)); clear BW
                      have BW := Lib.hid X.out; clear X
                      have X := Lib.hid (cell_below H13.out D6.out); clear H13
                      have H13 := Lib.hid X.out; clear X
                      have X := Lib.hid (XB.out.below D6.out); clear XB
                      have XB := Lib.hid X.out; clear X
                      clear D6
                      obtain ⟨g6, hg6⟩ := T6.out
                      obtain ⟨c6, hv6, _⟩ := own_some O6.out hg6
                      have hgg := F6.out g6 hg6
                      obtain ⟨nr, hnr⟩ : ∃ nr, nr = 0 + (q - (m' + 1)) := ⟨_, rfl⟩
                      obtain ⟨lr, hlr⟩ : ∃ lr, lr = [] ++ idCells (acc.drop (m' + 1)) := ⟨_, rfl⟩
                      have hv7 : v6 = .slice (some ⟨g6, 0, none⟩) nr c6 := by rw [hnr]; exact hv6
                      have X := Lib.hid (show World.ownsRow _ _ _ _ _ nr lr from by rw [hnr, hlr]; exact O6.out); clear O6 hv6
                      have O6 := Lib.hid X.out; clear X
                      subst hv7
                      have hnq : nr ≤ q := by omega
                      have HNR := Lib.hid hnr; clear hnr
                      have HLR := Lib.hid hlr; clear hlr
                      clear T6 F6 hg6
                      refine wp_region_h 5 [6] [0, 1, 2, 3, 4] [5, 7, 8] (by kernel_rfl) (by kernel_rfl) ?_
                      have X := Lib.hid SB.out.drew; clear SB
                      have SB := Lib.hid X.out; clear X
                      have X := Lib.hid XB.out.drew; clear XB
                      have XB := Lib.hid X.out; clear X
                      have X := Lib.hid (MO.out.keptBelowJ (Below.refl _ _).drew); clear MO
                      have MO := Lib.hid X.out; clear X
                      have X := Lib.hid (BW.out.drew); clear BW
                      have BW := Lib.hid X.out; clear X
                      have X := Lib.hid (HO.out.keptBelowJ (Below.refl _ _).drew); clear HO
                      have HO := Lib.hid X.out; clear X
                      have X := Lib.hid (cell_below H13.out (Below.refl _ _).drew); clear H13
                      have H13 := Lib.hid X.out; clear X
                      have X := Lib.hid (O6.out.keptBelowJ (Below.refl _ _).drew); clear O6
                      have O6 := Lib.hid X.out; clear X
                      refine wpFl_step rfl ?_; go_wp2; refine ⟨rfl, ?_⟩
                      refine wpFl_nil ?_
                      iterate 3 (refine wpH_quiet rfl rfl (by kernel_rfl) rfl ?_; go_wp2; refine ⟨rfl, ?_⟩)
                      refine wpH_quiet rfl rfl (by kernel_rfl) rfl ?_; refine wpList_load_row_g _ (by first | rfl | kernel_rfl) ⟨gx, 0, none⟩ rfl [.int .i64 ir, .int .i64 ys] agg_Id rfl (blk_cells XB.out) ?_; go_wp2; refine ⟨rfl, ?_⟩
                      refine wpH_actor rfl rfl (by kernel_rfl) ?_
                      go_wp2
                      refine ⟨Ext.alloc (Ext.refl _) _, ?_⟩
                      refine wpH_nil ?_
                      simp only [pickOps, List.getElem?_toArray, List.getElem?_cons_succ, List.getElem?_cons_zero]
                      have hgw := HO.out.lt g rfl
                      have h6w := O6.out.lt g6 rfl
                      have hto := own_take HO.out hatq
                      rw [idCells_take] at hto
                      have HTO := Lib.hid hto; clear hto
                      have HRS := Lib.hid (Reads.of_own O6.out)
                      go_wp2_with (first
                        | (at_builtin; refine wpList_app E_Id _ rfl (.tmp 75) (.tmp 77) rfl (w.heap.size + 1) _ (m' + 1) _ rfl (HTO.out.alloc _) _ _ _ _ rfl (Reads.new (e := 36) rfl) (by intro u hu; simp at hu; rcases hu with rfl | rfl <;> rfl) (by omega) (by simp at hgw ⊢; omega) ?_; intro v7 w7 hown7 hg7 hat7; have O7 := Lib.hid hown7; have G7 := Lib.hid hg7; have A7 := Lib.hid (show v7.ownBlock = some g ∨ v7.ownBlock = some _ from hat7); have R7 := Lib.hid (show Reads w7 2 (some ⟨g6, 0, none⟩) nr lr from ⟨HRS.out.1, fun h0 => ⟨_, rfl, fun jj u hu => by obtain ⟨_, e6, hc6⟩ := HRS.out.2 h0; injection e6 with e6; subst e6; have h8 := hc6 jj u hu; rw [World.cell?_of_block (hg7.block _ (by simp at h6w ⊢; rw [add_plain]; simp; omega) (fun e => by injection e with e; rw [add_plain] at e; simp at e; omega))]; exact ((Below.refl _ _).alloc (Nat.le_refl _) _).cell (by rw [add_plain]; exact h6w.2) |>.trans h8⟩⟩); clear hown7 hg7 hat7)
                        | (at_builtin; go_must (refine wpList_app E_Id _ rfl (.tmp 78) (.tmp 79) rfl (w.heap.size + 1) _ ((m' + 1) + 1) _ rfl O7.out _ _ _ _ rfl R7.out (by rw [HLR.out]; simpa using ids_one (acc.drop (m' + 1))) (by omega) (Nat.le_trans (by simp at hgw ⊢; omega) G7.out.size) ?_; intro v8 w8 hown8 hg8 hat8; have O8 := Lib.hid hown8; have G8 := Lib.hid hg8; have A8 := Lib.hid hat8; clear hown8 hg8 hat8))
                        | fail)
                      refine ⟨trivial, ?_⟩
                      have hq1 : (m' + 1) + 1 + nr = q + 1 := by have := HNR.out; omega
                      have hO8 := O8.out
                      have hce : idCells (acc.take (m' + 1)) ++ [.int .i64 ir, .int .i64 ys] ++ lr = idCells (acc.take (m' + 1) ++ ⟨ir, ys⟩ :: acc.drop (m' + 1)) := by rw [HLR.out, idCells_app]; simp [idCells]
                      have hO9 : World.ownsRow w8 (w.heap.size + 1) 36 2 v8 (q + 1) (idCells (acc.take (m' + 1) ++ ⟨ir, ys⟩ :: acc.drop (m' + 1))) := by rw [← hq1, ← hce]; exact hO8
                      clear hO8
                      have hA7 : v7.ownBlock = some g ∨ v7.ownBlock = some (World.heap w6).size.succ := A7.out.imp id (fun h => h.trans (by simp))
                      have hG7 : World.grownBy (World.alloc (World.drew w6) (.cells #[.int .i64 ir, .int .i64 ys] 36)) w7 (some g) := G7.out
                      have hG8 : World.grownBy w7 w8 v7.ownBlock := G8.out
                      have hA8 : v8.ownBlock = v7.ownBlock ∨ v8.ownBlock = some (World.heap w7).size := A8.out
                      have hs7 : (World.heap w6).size.succ ≤ (World.heap w7).size := Nat.le_trans (by simp) hG7.size
                      obtain ⟨g8, c8, rfl, _, hg8⟩ := own_some0 hO9 (Nat.succ_pos q)
                      have hg8c : g8 = g ∨ (World.heap w6).size < g8 := by rcases hA8 with h | h; (rcases hA7 with h2 | h2 <;> (rw [h2] at h; injection h with h; simp at h; omega)); (injection h with h; simp at h; omega)
                      have hk8 : ∀ b, b < (World.heap w6).size → b ≠ g → w8.heap[b]? = w6.heap[b]? := fun b hb hne => (hG8.block b (by omega) (fun e => by rcases hA7 with h2 | h2 <;> (rw [h2] at e; injection e with e; omega))).trans ((hG7.block b (by simp; omega) (fun e => by injection e with e; exact hne e)).trans (((Below.refl _ (World.drew w6)).alloc (Nat.le_refl _) _).block b hb))
                      have hgb : w.heap.size < g ∧ g < (World.heap w6).size := ⟨by have := hgw.1; omega, hgw.2⟩
                      have hbw : Below w.heap.size w w8 := ⟨hG8.os.trans (hG7.os.trans BW.out.os), hG8.tape.trans (hG7.tape.trans BW.out.tape), hG8.output.trans (hG7.output.trans BW.out.output), Nat.le_trans BW.out.size (Nat.le_trans (by simp) (Nat.le_trans hs7 hG8.size)), fun b hb => (hk8 b (by omega) (by omega)).trans (BW.out.block b hb)⟩
                      have Z1 := Lib.hid hbw
                      have Z2 := Lib.hid (SB.out.keep (hk8 _ (by omega) (by omega)))
                      have Z3 := Lib.hid (ownsRow_keep (base' := w.heap.size) MO.out (fun b hb => ⟨(MO.out.lt b hb).1, hk8 b (MO.out.lt b hb).2 (MN.out b hb)⟩))
                      have Z4 := Lib.hid (show ∀ b, (Value.slice A1 m1 c1).ownBlock = some b → b ≠ g8 from fun b hb e => by have h1 := MN.out b hb; have h2 := (MO.out.lt b hb).2; have h3 : b < (World.heap w6).size := h2; omega)
                      have Z5 := Lib.hid (show ∀ y ∈ acc.take (m' + 1) ++ ⟨ir, ys⟩ :: acc.drop (m' + 1), comB xs y = true from fun y hy => by rcases List.mem_append.1 hy with h | h; (exact HC.out y (List.mem_of_mem_take h)); (rcases List.mem_cons.1 h with rfl | h; (exact HCY.out); (exact HC.out y (List.mem_of_mem_drop h))))
                      have Z6 := Lib.hid hO9
                      have Z7 := Lib.hid (show q + 1 = (acc.take (m' + 1) ++ ⟨ir, ys⟩ :: acc.drop (m' + 1)).length from by rw [List.length_append, List.length_cons, List.length_take, List.length_drop, ← HQ.out]; omega)
                      clear hO9 hA7 hG7 hG8 hA8 hs7 hg8 hg8c hk8 hgb hbw hq1 hce O8 G8 A8 O7 G7 A7 R7 HRS HTO O6 HNR HLR
                      go_wp2
                      exact ⟨⟨j + 1, q + 1, g8, c8, _, by omega, by go_num, rfl, Z7.out, by omega, HT3.out, Z5.out, Z6.out, Z2.out, Z3.out, Z4.out, Z1.out⟩, by simp only [intOf]; omega⟩
      · have e3 : (yr == ir) = false := by simpa using e1
        have HNE := Lib.hid (show ¬ (⟨yr, ys⟩ : IdD) = ⟨ir, is⟩ from fun h => e1 (by injection h)); clear e1
        cases hb1 : hasB (rchL xs ⟨ir, is⟩) ⟨yr, ys⟩ with
        | false =>
          have HB1 := Lib.hid hb1
          have hT2 := HT.out
          rw [hb1] at hT2
          simp only [HNE.out, decide_false, Bool.false_or, Bool.false_and, Bool.false_eq_true, if_false] at hT2
          have HT2 := Lib.hid hT2; clear hT2 hb1 HT
          refine wp_region_g 17 (.one 0 (.one 1 (.act 2 (.one 3 (.one 4 (.one 5 (.one 6 (.one 7 (.one 8 (.one 9 (.one 10 (.one 12 (.one 11 (.one 13 (.one 14 (.one 15 (.one 16 .leaf))))))))))))))))) (by kernel_rfl) (by kernel_rfl) ?_
          have X := Lib.hid SB.out.drew; clear SB
          have SB := Lib.hid X.out; clear X
          have X := Lib.hid XB.out.drew; clear XB
          have XB := Lib.hid X.out; clear X
          have X := Lib.hid (MO.out.keptBelowJ (Below.refl _ _).drew); clear MO
          have MO := Lib.hid X.out; clear X
          have X := Lib.hid (BW.out.drew); clear BW
          have BW := Lib.hid X.out; clear X
          have X := Lib.hid (HO.out.keptBelowJ (Below.refl _ _).drew); clear HO
          have HO := Lib.hid X.out; clear X
          have X := Lib.hid (cell_below H13.out (Below.refl _ _).drew); clear H13
          have H13 := Lib.hid X.out; clear X
          refine wpG_quiet rfl (by kernel_rfl) rfl ?_; refine wpList_load_row_g _ (by first | rfl | kernel_rfl) ⟨gx, 0, none⟩ rfl [.int .i64 yr, .int .i64 ys] agg_Id rfl (blk_cells XB.out) ?_; go_wp2; refine ⟨rfl, ?_⟩
          refine wpG_quiet rfl (by kernel_rfl) rfl ?_; refine wpList_load_row_g _ (by first | rfl | kernel_rfl) ⟨w.heap.size, 0, none⟩ rfl [.int .i64 ir, .int .i64 is] agg_Id rfl (blk_cells SB.out) ?_; go_wp2; refine ⟨rfl, ?_⟩
          refine wpG_act rfl ?_; go_wp2
          refine ⟨Ext.refl _, ?_⟩
          iterate 1 (refine wpG_quiet rfl (by kernel_rfl) rfl ?_; go_wp2; refine ⟨rfl, ?_⟩)
          iterate 1 (refine wpG_quiet rfl (by kernel_rfl) rfl ?_; go_wp2; refine ⟨rfl, ?_⟩)
          refine wpG_quiet rfl (by kernel_rfl) rfl ?_; refine wpList_load_row_g _ (by first | rfl | kernel_rfl) ⟨gx, 0, none⟩ rfl [.int .i64 yr, .int .i64 ys] agg_Id rfl (blk_cells XB.out) ?_; go_wp2; refine ⟨rfl, ?_⟩
          refine wpG_actor rfl (by kernel_rfl) ?_; go_wp2_with fail
          refine (l8Has_any (rchL xs ⟨ir, is⟩) ⟨yr, ys⟩ A1 m1 c1 _ _ HM1.out (by omega) (own_rep MO.out HM1.out) (id_shut2 _ _)).mono ?_
          rintro e v2 ⟨rfl, hb⟩
          rw [HB1.out]
          have HB := Lib.hid hb; clear hb
          have X := Lib.hid (HO.out.keptBelowJ HB.out); clear HO
          have HO := Lib.hid X.out; clear X
          have X := Lib.hid (SB.out.below HB.out); clear SB
          have SB := Lib.hid X.out; clear X
          have X := Lib.hid (MO.out.keptBelowJ HB.out); clear MO
          have MO := Lib.hid X.out; clear X
          have X := Lib.hid (BW.out.trans (Below.mono HB.out BW.out.size)); clear BW
          have BW := Lib.hid X.out; clear X
          have X := Lib.hid (cell_below H13.out HB.out); clear H13
          have H13 := Lib.hid X.out; clear X
          have X := Lib.hid (XB.out.below HB.out); clear XB
          have XB := Lib.hid X.out; clear X
          go_wp2; refine ⟨Ext.of_below HB.out, ?_⟩
          clear HB
          iterate 2 (refine wpG_quiet rfl (by kernel_rfl) rfl ?_; go_wp2; refine ⟨rfl, ?_⟩)
          iterate 6 (refine wpG_skip rfl rfl (by kernel_rfl) ?_; simp only [List.setIfInBounds_toArray, List.set_cons_succ, List.set_cons_zero])
          iterate 2 (refine wpG_quiet rfl (by kernel_rfl) rfl ?_; go_wp2; refine ⟨rfl, ?_⟩)
          refine wpG_nil ?_; try simp only [List.drop_succ_cons, List.drop_zero]
          go_wp2
          exact ⟨⟨j + 1, q, g, c', acc, by omega, by go_num, rfl, HQ.out, by omega, HT2.out, HC.out, HO.out, SB.out, MO.out, MN.out, BW.out⟩, by simp only [intOf]; omega⟩
        | true =>
          have HB1 := Lib.hid hb1
          have hT1 := HT.out
          rw [hb1] at hT1
          have HCY := Lib.hid (HCJ.out hb1)
          clear hb1 HT
          cases hb2 : hasB (rchL xs ⟨yr, ys⟩) ⟨ir, is⟩ with
          | false =>
            have HB2 := Lib.hid hb2
            rw [hb2] at hT1
            simp only [HNE.out, decide_false, Bool.false_or, Bool.and_false, Bool.false_eq_true, if_false] at hT1
            have HT2 := Lib.hid hT1; clear hT1 hb2
            refine wp_region_g 17 (.one 0 (.one 1 (.act 2 (.one 3 (.one 4 (.one 5 (.one 6 (.one 7 (.one 8 (.one 9 (.one 10 (.one 12 (.one 11 (.one 13 (.one 14 (.one 15 (.one 16 .leaf))))))))))))))))) (by kernel_rfl) (by kernel_rfl) ?_
            have X := Lib.hid SB.out.drew; clear SB
            have SB := Lib.hid X.out; clear X
            have X := Lib.hid XB.out.drew; clear XB
            have XB := Lib.hid X.out; clear X
            have X := Lib.hid (MO.out.keptBelowJ (Below.refl _ _).drew); clear MO
            have MO := Lib.hid X.out; clear X
            have X := Lib.hid (BW.out.drew); clear BW
            have BW := Lib.hid X.out; clear X
            have X := Lib.hid (HO.out.keptBelowJ (Below.refl _ _).drew); clear HO
            have HO := Lib.hid X.out; clear X
            have X := Lib.hid (cell_below H13.out (Below.refl _ _).drew); clear H13
            have H13 := Lib.hid X.out; clear X
            refine wpG_quiet rfl (by kernel_rfl) rfl ?_; refine wpList_load_row_g _ (by first | rfl | kernel_rfl) ⟨gx, 0, none⟩ rfl [.int .i64 yr, .int .i64 ys] agg_Id rfl (blk_cells XB.out) ?_; go_wp2; refine ⟨rfl, ?_⟩
            refine wpG_quiet rfl (by kernel_rfl) rfl ?_; refine wpList_load_row_g _ (by first | rfl | kernel_rfl) ⟨w.heap.size, 0, none⟩ rfl [.int .i64 ir, .int .i64 is] agg_Id rfl (blk_cells SB.out) ?_; go_wp2; refine ⟨rfl, ?_⟩
            refine wpG_act rfl ?_; go_wp2
            refine ⟨Ext.refl _, ?_⟩
            iterate 1 (refine wpG_quiet rfl (by kernel_rfl) rfl ?_; go_wp2; refine ⟨rfl, ?_⟩)
            iterate 1 (refine wpG_quiet rfl (by kernel_rfl) rfl ?_; go_wp2; refine ⟨rfl, ?_⟩)
            refine wpG_quiet rfl (by kernel_rfl) rfl ?_; refine wpList_load_row_g _ (by first | rfl | kernel_rfl) ⟨gx, 0, none⟩ rfl [.int .i64 yr, .int .i64 ys] agg_Id rfl (blk_cells XB.out) ?_; go_wp2; refine ⟨rfl, ?_⟩
            refine wpG_actor rfl (by kernel_rfl) ?_; go_wp2_with fail
            refine (l8Has_any (rchL xs ⟨ir, is⟩) ⟨yr, ys⟩ A1 m1 c1 _ _ HM1.out (by omega) (own_rep MO.out HM1.out) (id_shut2 _ _)).mono ?_
            rintro e v2 ⟨rfl, hb⟩
            rw [HB1.out]
            have HB := Lib.hid hb; clear hb
            have X := Lib.hid (HO.out.keptBelowJ HB.out); clear HO
            have HO := Lib.hid X.out; clear X
            have X := Lib.hid (SB.out.below HB.out); clear SB
            have SB := Lib.hid X.out; clear X
            have X := Lib.hid (MO.out.keptBelowJ HB.out); clear MO
            have MO := Lib.hid X.out; clear X
            have X := Lib.hid (BW.out.trans (Below.mono HB.out BW.out.size)); clear BW
            have BW := Lib.hid X.out; clear X
            have X := Lib.hid (cell_below H13.out HB.out); clear H13
            have H13 := Lib.hid X.out; clear X
            have X := Lib.hid (XB.out.below HB.out); clear XB
            have XB := Lib.hid X.out; clear X
            go_wp2; refine ⟨Ext.of_below HB.out, ?_⟩
            clear HB
            iterate 2 (refine wpG_quiet rfl (by kernel_rfl) rfl ?_; go_wp2; refine ⟨rfl, ?_⟩)
            iterate 1 (refine wpG_quiet rfl (by kernel_rfl) rfl ?_; go_wp2; refine ⟨rfl, ?_⟩)
            refine wpG_quiet rfl (by kernel_rfl) rfl ?_; refine wpList_load_row_g _ (by first | rfl | kernel_rfl) ⟨gx, 0, none⟩ rfl [.int .i64 yr, .int .i64 ys] agg_Id rfl (blk_cells XB.out) ?_; go_wp2; refine ⟨rfl, ?_⟩
            refine wpG_quiet rfl (by kernel_rfl) rfl ?_; refine wpList_load_row_g _ (by first | rfl | kernel_rfl) ⟨w.heap.size, 0, none⟩ rfl [.int .i64 ir, .int .i64 is] agg_Id rfl (blk_cells SB.out) ?_; go_wp2; refine ⟨rfl, ?_⟩
            refine wpG_actor rfl (by kernel_rfl) ?_; go_wp2_with fail
            refine (HRE.out ⟨yr, ys⟩ _ _ (HR.out.below BW.out) (id_shut2 _ _)).mono ?_; rintro e v3 ⟨A4, m4, c4, rfl, hm4, hown4, hb⟩
            have hm418 : m4 ≤ 18 := by rw [hm4]; exact HLN.out _
            have M4 := Lib.hid (show Rep anyB v3 (.sl 36 2 m4 (cat IdD.c (rchL xs ⟨yr, ys⟩)) .nil) [.slice A4 m4 c4] from own_rep hown4 hm4)
            have HM4 := Lib.hid (show m4 = (rchL xs ⟨yr, ys⟩).length from hm4); clear hown4 hm4
            have HB := Lib.hid hb; clear hb
            have X := Lib.hid (HO.out.keptBelowJ HB.out); clear HO
            have HO := Lib.hid X.out; clear X
            have X := Lib.hid (SB.out.below HB.out); clear SB
            have SB := Lib.hid X.out; clear X
            have X := Lib.hid (MO.out.keptBelowJ HB.out); clear MO
            have MO := Lib.hid X.out; clear X
            have X := Lib.hid (BW.out.trans (Below.mono HB.out BW.out.size)); clear BW
            have BW := Lib.hid X.out; clear X
            have X := Lib.hid (cell_below H13.out HB.out); clear H13
            have H13 := Lib.hid X.out; clear X
            have X := Lib.hid (XB.out.below HB.out); clear XB
            have XB := Lib.hid X.out; clear X
            go_wp2; refine ⟨Ext.of_below HB.out, ?_⟩
            clear HB
            refine wpG_actor rfl (by kernel_rfl) ?_; go_wp2_with fail
            refine (l8Has_any (rchL xs ⟨yr, ys⟩) ⟨ir, is⟩ A4 m4 c4 _ _ HM4.out (by omega) M4.out (id_shut2 _ _)).mono ?_
            rintro e v4 ⟨rfl, hb⟩
            rw [HB2.out]
            have HB := Lib.hid hb; clear hb M4 HM4
            have X := Lib.hid (HO.out.keptBelowJ HB.out); clear HO
            have HO := Lib.hid X.out; clear X
            have X := Lib.hid (SB.out.below HB.out); clear SB
            have SB := Lib.hid X.out; clear X
            have X := Lib.hid (MO.out.keptBelowJ HB.out); clear MO
            have MO := Lib.hid X.out; clear X
            have X := Lib.hid (BW.out.trans (Below.mono HB.out BW.out.size)); clear BW
            have BW := Lib.hid X.out; clear X
            have X := Lib.hid (cell_below H13.out HB.out); clear H13
            have H13 := Lib.hid X.out; clear X
            have X := Lib.hid (XB.out.below HB.out); clear XB
            have XB := Lib.hid X.out; clear X
            go_wp2; refine ⟨Ext.of_below HB.out, ?_⟩
            clear HB
            iterate 3 (refine wpG_quiet rfl (by kernel_rfl) rfl ?_; go_wp2; refine ⟨rfl, ?_⟩)
            refine wpG_nil ?_; try simp only [List.drop_succ_cons, List.drop_zero]
            go_wp2
            exact ⟨⟨j + 1, q, g, c', acc, by omega, by go_num, rfl, HQ.out, by omega, HT2.out, HC.out, HO.out, SB.out, MO.out, MN.out, BW.out⟩, by simp only [intOf]; omega⟩
          | true =>
            have HB2 := Lib.hid hb2
            rw [hb2] at hT1
            simp only [HNE.out, decide_false, Bool.false_or, Bool.and_true, if_true] at hT1
            have HT2 := Lib.hid hT1; clear hT1 hb2
            refine wp_region_g 17 (.one 0 (.one 1 (.act 2 (.one 3 (.one 4 (.one 5 (.one 6 (.one 7 (.one 8 (.one 9 (.one 10 (.one 12 (.one 11 (.one 13 (.one 14 (.one 15 (.one 16 .leaf))))))))))))))))) (by kernel_rfl) (by kernel_rfl) ?_
            have X := Lib.hid SB.out.drew; clear SB
            have SB := Lib.hid X.out; clear X
            have X := Lib.hid XB.out.drew; clear XB
            have XB := Lib.hid X.out; clear X
            have X := Lib.hid (MO.out.keptBelowJ (Below.refl _ _).drew); clear MO
            have MO := Lib.hid X.out; clear X
            have X := Lib.hid (BW.out.drew); clear BW
            have BW := Lib.hid X.out; clear X
            have X := Lib.hid (HO.out.keptBelowJ (Below.refl _ _).drew); clear HO
            have HO := Lib.hid X.out; clear X
            have X := Lib.hid (cell_below H13.out (Below.refl _ _).drew); clear H13
            have H13 := Lib.hid X.out; clear X
            refine wpG_quiet rfl (by kernel_rfl) rfl ?_; refine wpList_load_row_g _ (by first | rfl | kernel_rfl) ⟨gx, 0, none⟩ rfl [.int .i64 yr, .int .i64 ys] agg_Id rfl (blk_cells XB.out) ?_; go_wp2; refine ⟨rfl, ?_⟩
            refine wpG_quiet rfl (by kernel_rfl) rfl ?_; refine wpList_load_row_g _ (by first | rfl | kernel_rfl) ⟨w.heap.size, 0, none⟩ rfl [.int .i64 ir, .int .i64 is] agg_Id rfl (blk_cells SB.out) ?_; go_wp2; refine ⟨rfl, ?_⟩
            refine wpG_act rfl ?_; go_wp2
            refine ⟨Ext.refl _, ?_⟩
            iterate 1 (refine wpG_quiet rfl (by kernel_rfl) rfl ?_; go_wp2; refine ⟨rfl, ?_⟩)
            iterate 1 (refine wpG_quiet rfl (by kernel_rfl) rfl ?_; go_wp2; refine ⟨rfl, ?_⟩)
            refine wpG_quiet rfl (by kernel_rfl) rfl ?_; refine wpList_load_row_g _ (by first | rfl | kernel_rfl) ⟨gx, 0, none⟩ rfl [.int .i64 yr, .int .i64 ys] agg_Id rfl (blk_cells XB.out) ?_; go_wp2; refine ⟨rfl, ?_⟩
            refine wpG_actor rfl (by kernel_rfl) ?_; go_wp2_with fail
            refine (l8Has_any (rchL xs ⟨ir, is⟩) ⟨yr, ys⟩ A1 m1 c1 _ _ HM1.out (by omega) (own_rep MO.out HM1.out) (id_shut2 _ _)).mono ?_
            rintro e v2 ⟨rfl, hb⟩
            rw [HB1.out]
            have HB := Lib.hid hb; clear hb
            have X := Lib.hid (HO.out.keptBelowJ HB.out); clear HO
            have HO := Lib.hid X.out; clear X
            have X := Lib.hid (SB.out.below HB.out); clear SB
            have SB := Lib.hid X.out; clear X
            have X := Lib.hid (MO.out.keptBelowJ HB.out); clear MO
            have MO := Lib.hid X.out; clear X
            have X := Lib.hid (BW.out.trans (Below.mono HB.out BW.out.size)); clear BW
            have BW := Lib.hid X.out; clear X
            have X := Lib.hid (cell_below H13.out HB.out); clear H13
            have H13 := Lib.hid X.out; clear X
            have X := Lib.hid (XB.out.below HB.out); clear XB
            have XB := Lib.hid X.out; clear X
            go_wp2; refine ⟨Ext.of_below HB.out, ?_⟩
            clear HB
            iterate 2 (refine wpG_quiet rfl (by kernel_rfl) rfl ?_; go_wp2; refine ⟨rfl, ?_⟩)
            iterate 1 (refine wpG_quiet rfl (by kernel_rfl) rfl ?_; go_wp2; refine ⟨rfl, ?_⟩)
            refine wpG_quiet rfl (by kernel_rfl) rfl ?_; refine wpList_load_row_g _ (by first | rfl | kernel_rfl) ⟨gx, 0, none⟩ rfl [.int .i64 yr, .int .i64 ys] agg_Id rfl (blk_cells XB.out) ?_; go_wp2; refine ⟨rfl, ?_⟩
            refine wpG_quiet rfl (by kernel_rfl) rfl ?_; refine wpList_load_row_g _ (by first | rfl | kernel_rfl) ⟨w.heap.size, 0, none⟩ rfl [.int .i64 ir, .int .i64 is] agg_Id rfl (blk_cells SB.out) ?_; go_wp2; refine ⟨rfl, ?_⟩
            refine wpG_actor rfl (by kernel_rfl) ?_; go_wp2_with fail
            refine (HRE.out ⟨yr, ys⟩ _ _ (HR.out.below BW.out) (id_shut2 _ _)).mono ?_; rintro e v3 ⟨A4, m4, c4, rfl, hm4, hown4, hb⟩
            have hm418 : m4 ≤ 18 := by rw [hm4]; exact HLN.out _
            have M4 := Lib.hid (show Rep anyB v3 (.sl 36 2 m4 (cat IdD.c (rchL xs ⟨yr, ys⟩)) .nil) [.slice A4 m4 c4] from own_rep hown4 hm4)
            have HM4 := Lib.hid (show m4 = (rchL xs ⟨yr, ys⟩).length from hm4); clear hown4 hm4
            have HB := Lib.hid hb; clear hb
            have X := Lib.hid (HO.out.keptBelowJ HB.out); clear HO
            have HO := Lib.hid X.out; clear X
            have X := Lib.hid (SB.out.below HB.out); clear SB
            have SB := Lib.hid X.out; clear X
            have X := Lib.hid (MO.out.keptBelowJ HB.out); clear MO
            have MO := Lib.hid X.out; clear X
            have X := Lib.hid (BW.out.trans (Below.mono HB.out BW.out.size)); clear BW
            have BW := Lib.hid X.out; clear X
            have X := Lib.hid (cell_below H13.out HB.out); clear H13
            have H13 := Lib.hid X.out; clear X
            have X := Lib.hid (XB.out.below HB.out); clear XB
            have XB := Lib.hid X.out; clear X
            go_wp2; refine ⟨Ext.of_below HB.out, ?_⟩
            clear HB
            refine wpG_actor rfl (by kernel_rfl) ?_; go_wp2_with fail
            refine (l8Has_any (rchL xs ⟨yr, ys⟩) ⟨ir, is⟩ A4 m4 c4 _ _ HM4.out (by omega) M4.out (id_shut2 _ _)).mono ?_
            rintro e v4 ⟨rfl, hb⟩
            rw [HB2.out]
            have HB := Lib.hid hb; clear hb M4 HM4
            have X := Lib.hid (HO.out.keptBelowJ HB.out); clear HO
            have HO := Lib.hid X.out; clear X
            have X := Lib.hid (SB.out.below HB.out); clear SB
            have SB := Lib.hid X.out; clear X
            have X := Lib.hid (MO.out.keptBelowJ HB.out); clear MO
            have MO := Lib.hid X.out; clear X
            have X := Lib.hid (BW.out.trans (Below.mono HB.out BW.out.size)); clear BW
            have BW := Lib.hid X.out; clear X
            have X := Lib.hid (cell_below H13.out HB.out); clear H13
            have H13 := Lib.hid X.out; clear X
            have X := Lib.hid (XB.out.below HB.out); clear XB
            have XB := Lib.hid X.out; clear X
            go_wp2; refine ⟨Ext.of_below HB.out, ?_⟩
            clear HB
            iterate 3 (refine wpG_quiet rfl (by kernel_rfl) rfl ?_; go_wp2; refine ⟨rfl, ?_⟩)
            refine wpG_nil ?_; try simp only [List.drop_succ_cons, List.drop_zero]
            go_wp2
            go_loopw [9] (fun tt ws => ∃ m : Nat, m ≤ q ∧ tt = .int .i64 (m : Int) ∧ atF xs acc ⟨yr, ys⟩ q = atF xs acc ⟨yr, ys⟩ m ∧ Below (World.heap (v4)).size (v4) ws) (fun tt _ => (intOf tt).toNat)
            case atStart => exact ⟨q, Nat.le_refl _, rfl, rfl, Below.refl _ _⟩
            case round =>
              obtain ⟨m, hmq, rfl, hat, hbl⟩ := hrel
              have HAT := Lib.hid hat; clear hat
              have CW := Lib.hid hbl; clear hbl
              have X := Lib.hid (HO.out.keptBelowJ CW.out); clear HO
              have HO := Lib.hid X.out; clear X
              have X := Lib.hid (SB.out.below CW.out); clear SB
              have SB := Lib.hid X.out; clear X
              have X := Lib.hid (MO.out.keptBelowJ CW.out); clear MO
              have MO := Lib.hid X.out; clear X
              have X := Lib.hid (BW.out.trans (Below.mono CW.out BW.out.size)); clear BW
              have BW := Lib.hid X.out; clear X
              have X := Lib.hid (cell_below H13.out CW.out); clear H13
              have H13 := Lib.hid X.out; clear X
              have X := Lib.hid (XB.out.below CW.out); clear XB
              have XB := Lib.hid X.out; clear X
              by_cases hm0 : m = 0
              · subst hm0
                have HA := Lib.hid (show atF xs acc ⟨yr, ys⟩ q = 0 from HAT.out); clear HAT
                go_wp2
                refine wp_region_x 21 [0, 1, 2, 3, 4, 5, 6, 7, 8, 9, 14, 15, 16, 17, 18, 10, 11, 12, 13, 19, 20] (by kernel_rfl) (by kernel_rfl) ?_
                have X := Lib.hid SB.out.drew; clear SB
                have SB := Lib.hid X.out; clear X
                have X := Lib.hid XB.out.drew; clear XB
                have XB := Lib.hid X.out; clear X
                have X := Lib.hid (MO.out.keptBelowJ (Below.refl _ _).drew); clear MO
                have MO := Lib.hid X.out; clear X
                have X := Lib.hid (BW.out.drew); clear BW
                have BW := Lib.hid X.out; clear X
                have X := Lib.hid (HO.out.keptBelowJ (Below.refl _ _).drew); clear HO
                have HO := Lib.hid X.out; clear X
                have X := Lib.hid (cell_below H13.out (Below.refl _ _).drew); clear H13
                have H13 := Lib.hid X.out; clear X
                iterate 3 (refine wpX_quiet rfl (by kernel_rfl) rfl ?_; go_wp2; refine ⟨rfl, ?_⟩)
                (iterate 6 (refine wpX_skip2 rfl rfl (by kernel_rfl) ?_)); simp only [List.setIfInBounds_toArray, List.set_cons_succ, List.set_cons_zero]; (iterate 6 (refine wpX_skip2 rfl rfl (by kernel_rfl) ?_)); simp only [List.setIfInBounds_toArray, List.set_cons_succ, List.set_cons_zero]; (iterate 5 (refine wpX_skip2 rfl rfl (by kernel_rfl) ?_)); simp only [List.setIfInBounds_toArray, List.set_cons_succ, List.set_cons_zero]
                iterate 1 (refine wpX_quiet rfl (by kernel_rfl) rfl ?_; go_wp2; refine ⟨rfl, ?_⟩)
                refine wpX_nil ?_; try simp only [List.drop_succ_cons, List.drop_zero]
                have hatq : 0 ≤ q := by omega
                have hT3 := HT2.out
                rw [insP, ← HQ.out, HA.out] at hT3
                have HT3 := Lib.hid hT3; clear hT3
                have hdr := idCells_drop acc 0
                have hqc : q ≤ c' := (own_some HO.out rfl).elim fun c2 h => by have := h.1; injection this with _ _ e; omega
                have HRD := Lib.hid (show Reads _ 2 (some ((⟨g, 0, none⟩ : Addr).add (0 * 2))) (q - 0) (idCells (acc.drop 0)) from by rw [← hdr]; exact reads_drop (Reads.of_own (HO.out.alloc (.cells #[] 36))) hatq); clear hdr
                go_wp2_with (first | (at_builtin; go_must (refine wpList_app E_Id _ rfl (.tmp 68) (.tmp 71) rfl (w.heap.size + 1) _ 0 [] rfl (own_nilAt _ _ _ _ _ rfl (by have h2 := (HO.out.lt g rfl); exact Nat.le_of_lt (Nat.lt_of_le_of_lt h2.1 h2.2))) _ _ _ _ rfl HRD.out (ids_one _) (by omega) (by have h3 := (HO.out.lt g rfl).1; have h2 := (HO.out.lt g rfl).2; simp at h2 ⊢; omega) ?_; intro v6 w6 hown6 hg6 hat6; have D6 := Lib.hid (show Below (World.heap (World.drew wr)).size (World.drew wr) w6 from Below.grown (show Below (World.heap (World.drew wr)).size (World.drew wr) (World.alloc (World.drew wr) (.cells #[] 36)) from (Below.refl _ _).alloc (Nat.le_refl _) _) hg6 (by simp) (fun k hk => by have hk2 : (Value.slice (some ⟨(World.heap (World.drew wr)).size, 0, none⟩) 0 0).ownBlock = some k := hk; simp [Value.ownBlock] at hk2; simp; omega)); have O6 := Lib.hid hown6; have T6 := Lib.hid (show (∃ k, v6.ownBlock = some k) from hat6.elim (fun h => ⟨_, h⟩) (fun h => ⟨_, h⟩)); have F6 := Lib.hid (show ∀ k, v6.ownBlock = some k → g < k from fun k hk => by have h3 := (HO.out.lt g rfl).2; have hat7 : v6.ownBlock = (Value.slice (some ⟨(World.heap (World.drew wr)).size, 0, none⟩) 0 0).ownBlock ∨ v6.ownBlock = some (World.heap (World.alloc (World.drew wr) (.cells #[] 36))).size := hat6; rcases hat7 with h | h <;> (rw [h] at hk; simp [Value.ownBlock] at hk h3; omega)); clear hown6 hg6 hat6)) | fail)
                clear HRD
                have X := Lib.hid (HO.out.keptBelowJ D6.out); clear HO
                have HO := Lib.hid X.out; clear X
                have X := Lib.hid (SB.out.below D6.out); clear SB
                have SB := Lib.hid X.out; clear X
                have X := Lib.hid (MO.out.keptBelowJ D6.out); clear MO
                have MO := Lib.hid X.out; clear X
                have X := Lib.hid (BW.out.trans (Below.mono D6.out BW.out.size)); clear BW
                have BW := Lib.hid X.out; clear X
                have X := Lib.hid (cell_below H13.out D6.out); clear H13
                have H13 := Lib.hid X.out; clear X
                have X := Lib.hid (XB.out.below D6.out); clear XB
                have XB := Lib.hid X.out; clear X
                clear D6
                obtain ⟨g6, hg6⟩ := T6.out
                obtain ⟨c6, hv6, _⟩ := own_some O6.out hg6
                have hgg := F6.out g6 hg6
                obtain ⟨nr, hnr⟩ : ∃ nr, nr = 0 + q := ⟨_, rfl⟩
                obtain ⟨lr, hlr⟩ : ∃ lr, lr = [] ++ idCells (acc.drop 0) := ⟨_, rfl⟩
                have hv7 : v6 = .slice (some ⟨g6, 0, none⟩) nr c6 := by rw [hnr]; exact hv6
                have X := Lib.hid (show World.ownsRow _ _ _ _ _ nr lr from by rw [hnr, hlr]; exact O6.out); clear O6 hv6
                have O6 := Lib.hid X.out; clear X
                subst hv7
                have hnq : nr ≤ q := by omega
                have HNR := Lib.hid hnr; clear hnr
                have HLR := Lib.hid hlr; clear hlr
                clear T6 F6 hg6
                refine wp_region_h 5 [6] [0, 1, 2, 3, 4] [5, 7, 8] (by kernel_rfl) (by kernel_rfl) ?_
                have X := Lib.hid SB.out.drew; clear SB
                have SB := Lib.hid X.out; clear X
                have X := Lib.hid XB.out.drew; clear XB
                have XB := Lib.hid X.out; clear X
                have X := Lib.hid (MO.out.keptBelowJ (Below.refl _ _).drew); clear MO
                have MO := Lib.hid X.out; clear X
                have X := Lib.hid (BW.out.drew); clear BW
                have BW := Lib.hid X.out; clear X
                have X := Lib.hid (HO.out.keptBelowJ (Below.refl _ _).drew); clear HO
                have HO := Lib.hid X.out; clear X
                have X := Lib.hid (cell_below H13.out (Below.refl _ _).drew); clear H13
                have H13 := Lib.hid X.out; clear X
                have X := Lib.hid (O6.out.keptBelowJ (Below.refl _ _).drew); clear O6
                have O6 := Lib.hid X.out; clear X
                refine wpFl_step rfl ?_; go_wp2; refine ⟨rfl, ?_⟩
                refine wpFl_nil ?_
                iterate 3 (refine wpH_quiet rfl rfl (by kernel_rfl) rfl ?_; go_wp2; refine ⟨rfl, ?_⟩)
                refine wpH_quiet rfl rfl (by kernel_rfl) rfl ?_; refine wpList_load_row_g _ (by first | rfl | kernel_rfl) ⟨gx, 0, none⟩ rfl [.int .i64 yr, .int .i64 ys] agg_Id rfl (blk_cells XB.out) ?_; go_wp2; refine ⟨rfl, ?_⟩
                refine wpH_actor rfl rfl (by kernel_rfl) ?_
                go_wp2
                refine ⟨Ext.alloc (Ext.refl _) _, ?_⟩
                refine wpH_nil ?_
                simp only [pickOps, List.getElem?_toArray, List.getElem?_cons_succ, List.getElem?_cons_zero]
                have hgw := HO.out.lt g rfl
                have h6w := O6.out.lt g6 rfl
                have hto := own_take HO.out hatq
                rw [idCells_take] at hto
                have HTO := Lib.hid hto; clear hto
                have HRS := Lib.hid (Reads.of_own O6.out)
                go_wp2_with (first
                  | (at_builtin; refine wpList_app E_Id _ rfl (.tmp 75) (.tmp 77) rfl (w.heap.size + 1) _ 0 _ rfl (HTO.out.alloc _) _ _ _ _ rfl (Reads.new (e := 36) rfl) (by intro u hu; simp at hu; rcases hu with rfl | rfl <;> rfl) (by omega) (by simp at hgw ⊢; omega) ?_; intro v7 w7 hown7 hg7 hat7; have O7 := Lib.hid hown7; have G7 := Lib.hid hg7; have A7 := Lib.hid (show v7.ownBlock = some g ∨ v7.ownBlock = some _ from hat7); have R7 := Lib.hid (show Reads w7 2 (some ⟨g6, 0, none⟩) nr lr from ⟨HRS.out.1, fun h0 => ⟨_, rfl, fun jj u hu => by obtain ⟨_, e6, hc6⟩ := HRS.out.2 h0; injection e6 with e6; subst e6; have h8 := hc6 jj u hu; rw [World.cell?_of_block (hg7.block _ (by simp at h6w ⊢; rw [add_plain]; simp; omega) (fun e => by injection e with e; rw [add_plain] at e; simp at e; omega))]; exact ((Below.refl _ _).alloc (Nat.le_refl _) _).cell (by rw [add_plain]; exact h6w.2) |>.trans h8⟩⟩); clear hown7 hg7 hat7)
                  | (at_builtin; go_must (refine wpList_app E_Id _ rfl (.tmp 78) (.tmp 79) rfl (w.heap.size + 1) _ (0 + 1) _ rfl O7.out _ _ _ _ rfl R7.out (by rw [HLR.out]; simpa using ids_one (acc.drop 0)) (by omega) (Nat.le_trans (by simp at hgw ⊢; omega) G7.out.size) ?_; intro v8 w8 hown8 hg8 hat8; have O8 := Lib.hid hown8; have G8 := Lib.hid hg8; have A8 := Lib.hid hat8; clear hown8 hg8 hat8))
                  | fail)
                refine ⟨trivial, ?_⟩
                have hq1 : 0 + 1 + nr = q + 1 := by have := HNR.out; omega
                have hO8 := O8.out
                have hce : idCells (acc.take 0) ++ [.int .i64 yr, .int .i64 ys] ++ lr = idCells (acc.take 0 ++ ⟨yr, ys⟩ :: acc.drop 0) := by rw [HLR.out, idCells_app]; simp [idCells]
                have hO9 : World.ownsRow w8 (w.heap.size + 1) 36 2 v8 (q + 1) (idCells (acc.take 0 ++ ⟨yr, ys⟩ :: acc.drop 0)) := by rw [← hq1, ← hce]; exact hO8
                clear hO8
                have hA7 : v7.ownBlock = some g ∨ v7.ownBlock = some (World.heap w6).size.succ := A7.out.imp id (fun h => h.trans (by simp))
                have hG7 : World.grownBy (World.alloc (World.drew w6) (.cells #[.int .i64 yr, .int .i64 ys] 36)) w7 (some g) := G7.out
                have hG8 : World.grownBy w7 w8 v7.ownBlock := G8.out
                have hA8 : v8.ownBlock = v7.ownBlock ∨ v8.ownBlock = some (World.heap w7).size := A8.out
                have hs7 : (World.heap w6).size.succ ≤ (World.heap w7).size := Nat.le_trans (by simp) hG7.size
                obtain ⟨g8, c8, rfl, _, hg8⟩ := own_some0 hO9 (Nat.succ_pos q)
                have hg8c : g8 = g ∨ (World.heap w6).size < g8 := by rcases hA8 with h | h; (rcases hA7 with h2 | h2 <;> (rw [h2] at h; injection h with h; simp at h; omega)); (injection h with h; simp at h; omega)
                have hk8 : ∀ b, b < (World.heap w6).size → b ≠ g → w8.heap[b]? = w6.heap[b]? := fun b hb hne => (hG8.block b (by omega) (fun e => by rcases hA7 with h2 | h2 <;> (rw [h2] at e; injection e with e; omega))).trans ((hG7.block b (by simp; omega) (fun e => by injection e with e; exact hne e)).trans (((Below.refl _ (World.drew w6)).alloc (Nat.le_refl _) _).block b hb))
                have hgb : w.heap.size < g ∧ g < (World.heap w6).size := ⟨by have := hgw.1; omega, hgw.2⟩
                have hbw : Below w.heap.size w w8 := ⟨hG8.os.trans (hG7.os.trans BW.out.os), hG8.tape.trans (hG7.tape.trans BW.out.tape), hG8.output.trans (hG7.output.trans BW.out.output), Nat.le_trans BW.out.size (Nat.le_trans (by simp) (Nat.le_trans hs7 hG8.size)), fun b hb => (hk8 b (by omega) (by omega)).trans (BW.out.block b hb)⟩
                have Z1 := Lib.hid hbw
                have Z2 := Lib.hid (SB.out.keep (hk8 _ (by omega) (by omega)))
                have Z3 := Lib.hid (ownsRow_keep (base' := w.heap.size) MO.out (fun b hb => ⟨(MO.out.lt b hb).1, hk8 b (MO.out.lt b hb).2 (MN.out b hb)⟩))
                have Z4 := Lib.hid (show ∀ b, (Value.slice A1 m1 c1).ownBlock = some b → b ≠ g8 from fun b hb e => by have h1 := MN.out b hb; have h2 := (MO.out.lt b hb).2; have h3 : b < (World.heap w6).size := h2; omega)
                have Z5 := Lib.hid (show ∀ y ∈ acc.take 0 ++ ⟨yr, ys⟩ :: acc.drop 0, comB xs y = true from fun y hy => by rcases List.mem_append.1 hy with h | h; (exact HC.out y (List.mem_of_mem_take h)); (rcases List.mem_cons.1 h with rfl | h; (exact HCY.out); (exact HC.out y (List.mem_of_mem_drop h))))
                have Z6 := Lib.hid hO9
                have Z7 := Lib.hid (show q + 1 = (acc.take 0 ++ ⟨yr, ys⟩ :: acc.drop 0).length from by rw [List.length_append, List.length_cons, List.length_take, List.length_drop, ← HQ.out]; omega)
                clear hO9 hA7 hG7 hG8 hA8 hs7 hg8 hg8c hk8 hgb hbw hq1 hce O8 G8 A8 O7 G7 A7 R7 HRS HTO O6 HNR HLR
                go_wp2
                exact ⟨⟨j + 1, q + 1, g8, c8, _, by omega, by go_num, rfl, Z7.out, by omega, HT3.out, Z5.out, Z6.out, Z2.out, Z3.out, Z4.out, Z1.out⟩, by simp only [intOf]; omega⟩
              · obtain ⟨m', rfl⟩ : ∃ m', m = m' + 1 := ⟨m - 1, by omega⟩
                have hmx : m' < acc.length := by have := HQ.out; omega
                have hgd : acc.getD m' ⟨yr, ys⟩ = acc[m'] := by rw [List.getD_eq_getElem?_getD, List.getElem?_eq_getElem hmx, Option.getD_some]
                have hat2 := HAT.out
                rw [atF, hgd, HSQ.out] at hat2
                obtain ⟨_, hra, hrz⟩ := reads_id (Reads.of_own HO.out) HQ.out m' hmx
                injection hra with hra
                subst hra
                have hcz := HC.out (acc[m']'hmx) (List.getElem_mem hmx)
                have HFZ := Lib.hid (fun cs W h h' => HFI.out (acc[m']'hmx) cs W h h')
                have HZQ := Lib.hid (fun j2 hj2 hh => HSEQ.out (acc[m']'hmx) j2 hj2 hh)
                have HZC := Lib.hid hrz; clear hrz hgd
                have HAT2 := Lib.hid hat2; clear hat2 HAT
                have HCZ := Lib.hid hcz; clear hcz
                generalize acc[m'] = z at *
                obtain ⟨zr, zs⟩ := z
                simp only [] at HZC HFZ
                have h13 := H13.out
                have hm1 : ((m' : Int) + 1 - 1) = (m' : Int) := by omega
                go_wp2
                refine wp_region_x 21 [0, 1, 2, 3, 4, 5, 6, 7, 8, 9, 14, 15, 16, 17, 18, 10, 11, 12, 13, 19, 20] (by kernel_rfl) (by kernel_rfl) ?_
                clear h13
                have X := Lib.hid SB.out.drew; clear SB
                have SB := Lib.hid X.out; clear X
                have X := Lib.hid XB.out.drew; clear XB
                have XB := Lib.hid X.out; clear X
                have X := Lib.hid (MO.out.keptBelowJ (Below.refl _ _).drew); clear MO
                have MO := Lib.hid X.out; clear X
                have X := Lib.hid (BW.out.drew); clear BW
                have BW := Lib.hid X.out; clear X
                have X := Lib.hid (HO.out.keptBelowJ (Below.refl _ _).drew); clear HO
                have HO := Lib.hid X.out; clear X
                have X := Lib.hid (cell_below H13.out (Below.refl _ _).drew); clear H13
                have H13 := Lib.hid X.out; clear X
                iterate 9 (refine wpX_quiet rfl (by kernel_rfl) rfl ?_; go_wp2; refine ⟨rfl, ?_⟩)
                have HZD := Lib.hid (show ∀ f u, [Value.int .i64 zr, .int .i64 zs][f]? = some u → _ from fun f u hu => by have h1 := HZC.out f u hu; rw [add_plain, Nat.zero_add] at h1; exact h1)
                refine wpX_quiet rfl (by kernel_rfl) rfl ?_; go_wp2_with (first | (first | refine wpList_load_row_g _ (by first | rfl | kernel_rfl) ⟨g, m' * 2, none⟩ rfl [.int .i64 zr, .int .i64 zs] agg_Id rfl HZD.out ?_ | refine wpList_load_row_g _ (by first | rfl | kernel_rfl) ((⟨g, 0, none⟩ : Addr).add (m' * 2)) rfl [.int .i64 zr, .int .i64 zs] agg_Id rfl HZC.out ?_) | fail); refine ⟨rfl, ?_⟩
                iterate 4 (refine wpX_quiet rfl (by kernel_rfl) rfl ?_; go_wp2; refine ⟨rfl, ?_⟩)
                have h13 := H13.out
                iterate 1 (refine wpX_quiet rfl (by kernel_rfl) rfl ?_; go_wp2; refine ⟨rfl, ?_⟩)
                clear h13 HZC HZD
                refine wpX_actor rfl (by kernel_rfl) ?_; go_wp2_with fail
                refine (HFZ.out _ _ (HR.out.below BW.out) (id_shut2 _ _)).mono ?_; rintro e v5 ⟨r, rfl, hr, hb⟩
                have HB := Lib.hid hb; clear hb
                have X := Lib.hid (HO.out.keptBelowJ HB.out); clear HO
                have HO := Lib.hid X.out; clear X
                have X := Lib.hid (SB.out.below HB.out); clear SB
                have SB := Lib.hid X.out; clear X
                have X := Lib.hid (MO.out.keptBelowJ HB.out); clear MO
                have MO := Lib.hid X.out; clear X
                have X := Lib.hid (BW.out.trans (Below.mono HB.out BW.out.size)); clear BW
                have BW := Lib.hid X.out; clear X
                have X := Lib.hid (cell_below H13.out HB.out); clear H13
                have H13 := Lib.hid X.out; clear X
                have X := Lib.hid (XB.out.below HB.out); clear XB
                have XB := Lib.hid X.out; clear X
                have X := Lib.hid ((CW.out.drew).trans (Below.mono HB.out CW.out.size)); clear CW
                have CW := Lib.hid X.out; clear X
                rcases hr with ⟨j2, hj2, rfl, _, _, hz2⟩ | ⟨rfl, hc2, _⟩
                rotate_left
                · rw [HCZ.out] at hc2; cases hc2
                have hsz := HZQ.out j2 hj2 hz2
                rw [hsz] at HAT2
                obtain ⟨ad2, cj, he2, _, _, hrc2, hl2, hc2⟩ := (HR.out.below BW.out).elem InstD.width j2 hj2 HN.out
                injection he2 with he2
                subst he2
                obtain ⟨_, _, _, _, rfl, _⟩ := InstD.open hrc2
                have H2 := Lib.hid (show v5.cell? ⟨(ad.add (j2 * 16)).block, (ad.add (j2 * 16)).off + 13, none⟩ = some (Value.int .i64 xs[j2].seq) from hc2 13 _ rfl); clear hc2 hrc2 hl2 hz2 hsz
                have hj2n : j2 < n := by have := HN.out; omega
                generalize xs[j2].seq = sz at *
                go_wp2; refine ⟨Ext.of_below HB.out, ?_⟩
                clear HB
                iterate 2 (refine wpX_quiet rfl (by kernel_rfl) rfl ?_; go_wp2; refine ⟨rfl, ?_⟩)
                have h2 := H2.out
                iterate 1 (refine wpX_quiet rfl (by kernel_rfl) rfl ?_; go_wp2; refine ⟨rfl, ?_⟩)
                clear h2 H2
                by_cases hgt : sq < sz
                · have d1 : decide (sq < sz) = true := by simpa using hgt
                  have hat3 := HAT2.out
                  rw [if_pos hgt] at hat3
                  have HAT3 := Lib.hid hat3; clear hat3
                  iterate 2 (refine wpX_quiet rfl (by kernel_rfl) rfl ?_; go_wp2; refine ⟨rfl, ?_⟩)
                  refine wpX_nil ?_; try simp only [List.drop_succ_cons, List.drop_zero]
                  go_wp2
                  exact ⟨⟨m', by omega, by go_num, HAT3.out, CW.out⟩, by simp only [intOf]; omega⟩
                · have d1 : decide (sq < sz) = false := by simpa using hgt
                  have hat3 := HAT2.out
                  rw [if_neg hgt] at hat3
                  have HA := Lib.hid hat3; clear hat3
                  iterate 2 (refine wpX_quiet rfl (by kernel_rfl) rfl ?_; go_wp2; refine ⟨rfl, ?_⟩)
                  refine wpX_nil ?_; try simp only [List.drop_succ_cons, List.drop_zero]
                  have hqc0 : q ≤ c' := (own_some HO.out rfl).elim fun c2 h => by have := h.1; injection this with _ _ e; omega
                  by_cases hcc : c' = (m' + 1)
                  · subst hcc
                    have hatq : (m' + 1) ≤ q := by omega
                    have hT3 := HT2.out
                    rw [insP, ← HQ.out, HA.out] at hT3
                    have HT3 := Lib.hid hT3; clear hT3
                    have hdr := idCells_drop acc (m' + 1)
                    have hqc : q ≤ (m' + 1) := hqc0
                    have HRD := Lib.hid (show Reads (World.alloc (v5) (.cells #[] 36)) 2 (some (⟨g, 0, none⟩ : Addr)) 0 (idCells (acc.drop (m' + 1))) from by rw [← hdr]; have h8 := reads_drop (Reads.of_own (HO.out.alloc (.cells #[] 36))) hatq; exact ⟨by have h9 := h8.1; omega, fun h0 => by omega⟩); clear hdr
                    go_wp2_with (first | (at_builtin; go_must (refine wpList_app E_Id _ rfl (.tmp 68) (.tmp 71) rfl (w.heap.size + 1) _ 0 [] rfl (own_nilAt _ _ _ _ _ rfl (by have h2 := (HO.out.lt g rfl); exact Nat.le_of_lt (Nat.lt_of_le_of_lt h2.1 h2.2))) _ _ _ _ rfl HRD.out (ids_one _) (by omega) (by have h3 := (HO.out.lt g rfl).1; have h2 := (HO.out.lt g rfl).2; simp at h2 ⊢; omega) ?_; intro v6 w6 hown6 hg6 hat6; have D6 := Lib.hid (show Below (World.heap (v5)).size (v5) w6 from Below.grown (show Below (World.heap (v5)).size (v5) (World.alloc (v5) (.cells #[] 36)) from (Below.refl _ _).alloc (Nat.le_refl _) _) hg6 (by simp) (fun k hk => by have hk2 : (Value.slice (some ⟨(World.heap (v5)).size, 0, none⟩) 0 0).ownBlock = some k := hk; simp [Value.ownBlock] at hk2; simp; omega)); have O6 := Lib.hid hown6; have T6 := Lib.hid (show (∃ k, v6.ownBlock = some k) from hat6.elim (fun h => ⟨_, h⟩) (fun h => ⟨_, h⟩)); have F6 := Lib.hid (show ∀ k, v6.ownBlock = some k → g < k from fun k hk => by have h3 := (HO.out.lt g rfl).2; have hat7 : v6.ownBlock = (Value.slice (some ⟨(World.heap (v5)).size, 0, none⟩) 0 0).ownBlock ∨ v6.ownBlock = some (World.heap (World.alloc (v5) (.cells #[] 36))).size := hat6; rcases hat7 with h | h <;> (rw [h] at hk; simp [Value.ownBlock] at hk h3; omega)); clear hown6 hg6 hat6)) | fail)
                    clear HRD
                    have X := Lib.hid (HO.out.keptBelowJ D6.out); clear HO
                    have HO := Lib.hid X.out; clear X
                    have X := Lib.hid (SB.out.below D6.out); clear SB
                    have SB := Lib.hid X.out; clear X
                    have X := Lib.hid (MO.out.keptBelowJ D6.out); clear MO
                    have MO := Lib.hid X.out; clear X
                    have X := Lib.hid (BW.out.trans (Below.mono D6.out BW.out.size)); clear BW
                    have BW := Lib.hid X.out; clear X
                    have X := Lib.hid (cell_below H13.out D6.out); clear H13
                    have H13 := Lib.hid X.out; clear X
                    have X := Lib.hid (XB.out.below D6.out); clear XB
                    have XB := Lib.hid X.out; clear X
                    clear D6
                    obtain ⟨g6, hg6⟩ := T6.out
                    obtain ⟨c6, hv6, _⟩ := own_some O6.out hg6
                    have hgg := F6.out g6 hg6
                    obtain ⟨nr, hnr⟩ : ∃ nr, nr = 0 := ⟨_, rfl⟩
                    obtain ⟨lr, hlr⟩ : ∃ lr, lr = [] ++ idCells (acc.drop (m' + 1)) := ⟨_, rfl⟩
                    have hv7 : v6 = .slice (some ⟨g6, 0, none⟩) nr c6 := by rw [hnr]; exact hv6
                    have X := Lib.hid (show World.ownsRow _ _ _ _ _ nr lr from by rw [hnr, hlr]; exact O6.out); clear O6 hv6
                    have O6 := Lib.hid X.out; clear X
                    subst hv7
                    have hnq : nr ≤ q := by omega
                    have HNR := Lib.hid hnr; clear hnr
                    have HLR := Lib.hid hlr; clear hlr
                    clear T6 F6 hg6
                    refine wp_region_h 5 [6] [0, 1, 2, 3, 4] [5, 7, 8] (by kernel_rfl) (by kernel_rfl) ?_
                    have X := Lib.hid SB.out.drew; clear SB
                    have SB := Lib.hid X.out; clear X
                    have X := Lib.hid XB.out.drew; clear XB
                    have XB := Lib.hid X.out; clear X
                    have X := Lib.hid (MO.out.keptBelowJ (Below.refl _ _).drew); clear MO
                    have MO := Lib.hid X.out; clear X
                    have X := Lib.hid (BW.out.drew); clear BW
                    have BW := Lib.hid X.out; clear X
                    have X := Lib.hid (HO.out.keptBelowJ (Below.refl _ _).drew); clear HO
                    have HO := Lib.hid X.out; clear X
                    have X := Lib.hid (cell_below H13.out (Below.refl _ _).drew); clear H13
                    have H13 := Lib.hid X.out; clear X
                    have X := Lib.hid (O6.out.keptBelowJ (Below.refl _ _).drew); clear O6
                    have O6 := Lib.hid X.out; clear X
                    refine wpFl_step rfl ?_; go_wp2; refine ⟨rfl, ?_⟩
                    refine wpFl_nil ?_
                    iterate 3 (refine wpH_quiet rfl rfl (by kernel_rfl) rfl ?_; go_wp2; refine ⟨rfl, ?_⟩)
                    refine wpH_quiet rfl rfl (by kernel_rfl) rfl ?_; refine wpList_load_row_g _ (by first | rfl | kernel_rfl) ⟨gx, 0, none⟩ rfl [.int .i64 yr, .int .i64 ys] agg_Id rfl (blk_cells XB.out) ?_; go_wp2; refine ⟨rfl, ?_⟩
                    refine wpH_actor rfl rfl (by kernel_rfl) ?_
                    go_wp2
                    refine ⟨Ext.alloc (Ext.refl _) _, ?_⟩
                    refine wpH_nil ?_
                    simp only [pickOps, List.getElem?_toArray, List.getElem?_cons_succ, List.getElem?_cons_zero]
                    have hgw := HO.out.lt g rfl
                    have h6w := O6.out.lt g6 rfl
                    have hto := own_take HO.out hatq
                    rw [idCells_take] at hto
                    have HTO := Lib.hid hto; clear hto
                    have HRS := Lib.hid (Reads.of_own O6.out)
                    go_wp2_with (first
                      | (at_builtin; refine wpList_app E_Id _ rfl (.tmp 75) (.tmp 77) rfl (w.heap.size + 1) _ (m' + 1) _ rfl (HTO.out.alloc _) _ _ _ _ rfl (Reads.new (e := 36) rfl) (by intro u hu; simp at hu; rcases hu with rfl | rfl <;> rfl) (by omega) (by simp at hgw ⊢; omega) ?_; intro v7 w7 hown7 hg7 hat7; have O7 := Lib.hid hown7; have G7 := Lib.hid hg7; have A7 := Lib.hid (show v7.ownBlock = some g ∨ v7.ownBlock = some _ from hat7); have R7 := Lib.hid (show Reads w7 2 (some ⟨g6, 0, none⟩) nr lr from ⟨HRS.out.1, fun h0 => ⟨_, rfl, fun jj u hu => by obtain ⟨_, e6, hc6⟩ := HRS.out.2 h0; injection e6 with e6; subst e6; have h8 := hc6 jj u hu; rw [World.cell?_of_block (hg7.block _ (by simp at h6w ⊢; rw [add_plain]; simp; omega) (fun e => by injection e with e; rw [add_plain] at e; simp at e; omega))]; exact ((Below.refl _ _).alloc (Nat.le_refl _) _).cell (by rw [add_plain]; exact h6w.2) |>.trans h8⟩⟩); clear hown7 hg7 hat7)
                      | (at_builtin; go_must (refine wpList_app E_Id _ rfl (.tmp 78) (.tmp 79) rfl (w.heap.size + 1) _ ((m' + 1) + 1) _ rfl O7.out _ _ _ _ rfl R7.out (by rw [HLR.out]; simpa using ids_one (acc.drop (m' + 1))) (by omega) (Nat.le_trans (by simp at hgw ⊢; omega) G7.out.size) ?_; intro v8 w8 hown8 hg8 hat8; have O8 := Lib.hid hown8; have G8 := Lib.hid hg8; have A8 := Lib.hid hat8; clear hown8 hg8 hat8))
                      | fail)
                    refine ⟨trivial, ?_⟩
                    have hq1 : (m' + 1) + 1 + nr = q + 1 := by have := HNR.out; omega
                    have hO8 := O8.out
                    have hce : idCells (acc.take (m' + 1)) ++ [.int .i64 yr, .int .i64 ys] ++ lr = idCells (acc.take (m' + 1) ++ ⟨yr, ys⟩ :: acc.drop (m' + 1)) := by rw [HLR.out, idCells_app]; simp [idCells]
                    have hO9 : World.ownsRow w8 (w.heap.size + 1) 36 2 v8 (q + 1) (idCells (acc.take (m' + 1) ++ ⟨yr, ys⟩ :: acc.drop (m' + 1))) := by rw [← hq1, ← hce]; exact hO8
                    clear hO8
                    have hA7 : v7.ownBlock = some g ∨ v7.ownBlock = some (World.heap w6).size.succ := A7.out.imp id (fun h => h.trans (by simp))
                    have hG7 : World.grownBy (World.alloc (World.drew w6) (.cells #[.int .i64 yr, .int .i64 ys] 36)) w7 (some g) := G7.out
                    have hG8 : World.grownBy w7 w8 v7.ownBlock := G8.out
                    have hA8 : v8.ownBlock = v7.ownBlock ∨ v8.ownBlock = some (World.heap w7).size := A8.out
                    have hs7 : (World.heap w6).size.succ ≤ (World.heap w7).size := Nat.le_trans (by simp) hG7.size
                    obtain ⟨g8, c8, rfl, _, hg8⟩ := own_some0 hO9 (Nat.succ_pos q)
                    have hg8c : g8 = g ∨ (World.heap w6).size < g8 := by rcases hA8 with h | h; (rcases hA7 with h2 | h2 <;> (rw [h2] at h; injection h with h; simp at h; omega)); (injection h with h; simp at h; omega)
                    have hk8 : ∀ b, b < (World.heap w6).size → b ≠ g → w8.heap[b]? = w6.heap[b]? := fun b hb hne => (hG8.block b (by omega) (fun e => by rcases hA7 with h2 | h2 <;> (rw [h2] at e; injection e with e; omega))).trans ((hG7.block b (by simp; omega) (fun e => by injection e with e; exact hne e)).trans (((Below.refl _ (World.drew w6)).alloc (Nat.le_refl _) _).block b hb))
                    have hgb : w.heap.size < g ∧ g < (World.heap w6).size := ⟨by have := hgw.1; omega, hgw.2⟩
                    have hbw : Below w.heap.size w w8 := ⟨hG8.os.trans (hG7.os.trans BW.out.os), hG8.tape.trans (hG7.tape.trans BW.out.tape), hG8.output.trans (hG7.output.trans BW.out.output), Nat.le_trans BW.out.size (Nat.le_trans (by simp) (Nat.le_trans hs7 hG8.size)), fun b hb => (hk8 b (by omega) (by omega)).trans (BW.out.block b hb)⟩
                    have Z1 := Lib.hid hbw
                    have Z2 := Lib.hid (SB.out.keep (hk8 _ (by omega) (by omega)))
                    have Z3 := Lib.hid (ownsRow_keep (base' := w.heap.size) MO.out (fun b hb => ⟨(MO.out.lt b hb).1, hk8 b (MO.out.lt b hb).2 (MN.out b hb)⟩))
                    have Z4 := Lib.hid (show ∀ b, (Value.slice A1 m1 c1).ownBlock = some b → b ≠ g8 from fun b hb e => by have h1 := MN.out b hb; have h2 := (MO.out.lt b hb).2; have h3 : b < (World.heap w6).size := h2; omega)
                    have Z5 := Lib.hid (show ∀ y ∈ acc.take (m' + 1) ++ ⟨yr, ys⟩ :: acc.drop (m' + 1), comB xs y = true from fun y hy => by rcases List.mem_append.1 hy with h | h; (exact HC.out y (List.mem_of_mem_take h)); (rcases List.mem_cons.1 h with rfl | h; (exact HCY.out); (exact HC.out y (List.mem_of_mem_drop h))))
                    have Z6 := Lib.hid hO9
                    have Z7 := Lib.hid (show q + 1 = (acc.take (m' + 1) ++ ⟨yr, ys⟩ :: acc.drop (m' + 1)).length from by rw [List.length_append, List.length_cons, List.length_take, List.length_drop, ← HQ.out]; omega)
                    clear hO9 hA7 hG7 hG8 hA8 hs7 hg8 hg8c hk8 hgb hbw hq1 hce O8 G8 A8 O7 G7 A7 R7 HRS HTO O6 HNR HLR
                    go_wp2
                    exact ⟨⟨j + 1, q + 1, g8, c8, _, by omega, by go_num, rfl, Z7.out, by omega, HT3.out, Z5.out, Z6.out, Z2.out, Z3.out, Z4.out, Z1.out⟩, by simp only [intOf]; omega⟩
                  · skip
                    have hatq : (m' + 1) ≤ q := by omega
                    have hT3 := HT2.out
                    rw [insP, ← HQ.out, HA.out] at hT3
                    have HT3 := Lib.hid hT3; clear hT3
                    have hdr := idCells_drop acc (m' + 1)
                    have hqc : q ≤ c' := hqc0
                    have HRD := Lib.hid (show Reads (World.alloc (v5) (.cells #[] 36)) 2 (some (⟨g, (m' + 1) * 2, none⟩ : Addr)) (q - (m' + 1)) (idCells (acc.drop (m' + 1))) from by rw [← hdr]; have h8 := reads_drop (Reads.of_own (HO.out.alloc (.cells #[] 36))) hatq; rw [add_plain, Nat.zero_add] at h8; exact h8); clear hdr
                    go_wp2_with (first | (at_builtin; go_must (refine wpList_app E_Id _ rfl (.tmp 68) (.tmp 71) rfl (w.heap.size + 1) _ 0 [] rfl (own_nilAt _ _ _ _ _ rfl (by have h2 := (HO.out.lt g rfl); exact Nat.le_of_lt (Nat.lt_of_le_of_lt h2.1 h2.2))) _ _ _ _ rfl HRD.out (ids_one _) (by omega) (by have h3 := (HO.out.lt g rfl).1; have h2 := (HO.out.lt g rfl).2; simp at h2 ⊢; omega) ?_; intro v6 w6 hown6 hg6 hat6; have D6 := Lib.hid (show Below (World.heap (v5)).size (v5) w6 from Below.grown (show Below (World.heap (v5)).size (v5) (World.alloc (v5) (.cells #[] 36)) from (Below.refl _ _).alloc (Nat.le_refl _) _) hg6 (by simp) (fun k hk => by have hk2 : (Value.slice (some ⟨(World.heap (v5)).size, 0, none⟩) 0 0).ownBlock = some k := hk; simp [Value.ownBlock] at hk2; simp; omega)); have O6 := Lib.hid hown6; have T6 := Lib.hid (show (∃ k, v6.ownBlock = some k) from hat6.elim (fun h => ⟨_, h⟩) (fun h => ⟨_, h⟩)); have F6 := Lib.hid (show ∀ k, v6.ownBlock = some k → g < k from fun k hk => by have h3 := (HO.out.lt g rfl).2; have hat7 : v6.ownBlock = (Value.slice (some ⟨(World.heap (v5)).size, 0, none⟩) 0 0).ownBlock ∨ v6.ownBlock = some (World.heap (World.alloc (v5) (.cells #[] 36))).size := hat6; rcases hat7 with h | h <;> (rw [h] at hk; simp [Value.ownBlock] at hk h3; omega)); clear hown6 hg6 hat6)) | fail)
                    clear HRD
                    have X := Lib.hid (HO.out.keptBelowJ D6.out); clear HO
                    have HO := Lib.hid X.out; clear X
                    have X := Lib.hid (SB.out.below D6.out); clear SB
                    have SB := Lib.hid X.out; clear X
                    have X := Lib.hid (MO.out.keptBelowJ D6.out); clear MO
                    have MO := Lib.hid X.out; clear X
                    have X := Lib.hid (BW.out.trans (Below.mono D6.out BW.out.size)); clear BW
                    have BW := Lib.hid X.out; clear X
                    have X := Lib.hid (cell_below H13.out D6.out); clear H13
                    have H13 := Lib.hid X.out; clear X
                    have X := Lib.hid (XB.out.below D6.out); clear XB
                    have XB := Lib.hid X.out; clear X
                    clear D6
                    obtain ⟨g6, hg6⟩ := T6.out
                    obtain ⟨c6, hv6, _⟩ := own_some O6.out hg6
                    have hgg := F6.out g6 hg6
                    obtain ⟨nr, hnr⟩ : ∃ nr, nr = 0 + (q - (m' + 1)) := ⟨_, rfl⟩
                    obtain ⟨lr, hlr⟩ : ∃ lr, lr = [] ++ idCells (acc.drop (m' + 1)) := ⟨_, rfl⟩
                    have hv7 : v6 = .slice (some ⟨g6, 0, none⟩) nr c6 := by rw [hnr]; exact hv6
                    have X := Lib.hid (show World.ownsRow _ _ _ _ _ nr lr from by rw [hnr, hlr]; exact O6.out); clear O6 hv6
                    have O6 := Lib.hid X.out; clear X
                    subst hv7
                    have hnq : nr ≤ q := by omega
                    have HNR := Lib.hid hnr; clear hnr
                    have HLR := Lib.hid hlr; clear hlr
                    clear T6 F6 hg6
                    refine wp_region_h 5 [6] [0, 1, 2, 3, 4] [5, 7, 8] (by kernel_rfl) (by kernel_rfl) ?_
                    have X := Lib.hid SB.out.drew; clear SB
                    have SB := Lib.hid X.out; clear X
                    have X := Lib.hid XB.out.drew; clear XB
                    have XB := Lib.hid X.out; clear X
                    have X := Lib.hid (MO.out.keptBelowJ (Below.refl _ _).drew); clear MO
                    have MO := Lib.hid X.out; clear X
                    have X := Lib.hid (BW.out.drew); clear BW
                    have BW := Lib.hid X.out; clear X
                    have X := Lib.hid (HO.out.keptBelowJ (Below.refl _ _).drew); clear HO
                    have HO := Lib.hid X.out; clear X
                    have X := Lib.hid (cell_below H13.out (Below.refl _ _).drew); clear H13
                    have H13 := Lib.hid X.out; clear X
                    have X := Lib.hid (O6.out.keptBelowJ (Below.refl _ _).drew); clear O6
                    have O6 := Lib.hid X.out; clear X
                    refine wpFl_step rfl ?_; go_wp2; refine ⟨rfl, ?_⟩
                    refine wpFl_nil ?_
                    iterate 3 (refine wpH_quiet rfl rfl (by kernel_rfl) rfl ?_; go_wp2; refine ⟨rfl, ?_⟩)
                    refine wpH_quiet rfl rfl (by kernel_rfl) rfl ?_; refine wpList_load_row_g _ (by first | rfl | kernel_rfl) ⟨gx, 0, none⟩ rfl [.int .i64 yr, .int .i64 ys] agg_Id rfl (blk_cells XB.out) ?_; go_wp2; refine ⟨rfl, ?_⟩
                    refine wpH_actor rfl rfl (by kernel_rfl) ?_
                    go_wp2
                    refine ⟨Ext.alloc (Ext.refl _) _, ?_⟩
                    refine wpH_nil ?_
                    simp only [pickOps, List.getElem?_toArray, List.getElem?_cons_succ, List.getElem?_cons_zero]
                    have hgw := HO.out.lt g rfl
                    have h6w := O6.out.lt g6 rfl
                    have hto := own_take HO.out hatq
                    rw [idCells_take] at hto
                    have HTO := Lib.hid hto; clear hto
                    have HRS := Lib.hid (Reads.of_own O6.out)
                    go_wp2_with (first
                      | (at_builtin; refine wpList_app E_Id _ rfl (.tmp 75) (.tmp 77) rfl (w.heap.size + 1) _ (m' + 1) _ rfl (HTO.out.alloc _) _ _ _ _ rfl (Reads.new (e := 36) rfl) (by intro u hu; simp at hu; rcases hu with rfl | rfl <;> rfl) (by omega) (by simp at hgw ⊢; omega) ?_; intro v7 w7 hown7 hg7 hat7; have O7 := Lib.hid hown7; have G7 := Lib.hid hg7; have A7 := Lib.hid (show v7.ownBlock = some g ∨ v7.ownBlock = some _ from hat7); have R7 := Lib.hid (show Reads w7 2 (some ⟨g6, 0, none⟩) nr lr from ⟨HRS.out.1, fun h0 => ⟨_, rfl, fun jj u hu => by obtain ⟨_, e6, hc6⟩ := HRS.out.2 h0; injection e6 with e6; subst e6; have h8 := hc6 jj u hu; rw [World.cell?_of_block (hg7.block _ (by simp at h6w ⊢; rw [add_plain]; simp; omega) (fun e => by injection e with e; rw [add_plain] at e; simp at e; omega))]; exact ((Below.refl _ _).alloc (Nat.le_refl _) _).cell (by rw [add_plain]; exact h6w.2) |>.trans h8⟩⟩); clear hown7 hg7 hat7)
                      | (at_builtin; go_must (refine wpList_app E_Id _ rfl (.tmp 78) (.tmp 79) rfl (w.heap.size + 1) _ ((m' + 1) + 1) _ rfl O7.out _ _ _ _ rfl R7.out (by rw [HLR.out]; simpa using ids_one (acc.drop (m' + 1))) (by omega) (Nat.le_trans (by simp at hgw ⊢; omega) G7.out.size) ?_; intro v8 w8 hown8 hg8 hat8; have O8 := Lib.hid hown8; have G8 := Lib.hid hg8; have A8 := Lib.hid hat8; clear hown8 hg8 hat8))
                      | fail)
                    refine ⟨trivial, ?_⟩
                    have hq1 : (m' + 1) + 1 + nr = q + 1 := by have := HNR.out; omega
                    have hO8 := O8.out
                    have hce : idCells (acc.take (m' + 1)) ++ [.int .i64 yr, .int .i64 ys] ++ lr = idCells (acc.take (m' + 1) ++ ⟨yr, ys⟩ :: acc.drop (m' + 1)) := by rw [HLR.out, idCells_app]; simp [idCells]
                    have hO9 : World.ownsRow w8 (w.heap.size + 1) 36 2 v8 (q + 1) (idCells (acc.take (m' + 1) ++ ⟨yr, ys⟩ :: acc.drop (m' + 1))) := by rw [← hq1, ← hce]; exact hO8
                    clear hO8
                    have hA7 : v7.ownBlock = some g ∨ v7.ownBlock = some (World.heap w6).size.succ := A7.out.imp id (fun h => h.trans (by simp))
                    have hG7 : World.grownBy (World.alloc (World.drew w6) (.cells #[.int .i64 yr, .int .i64 ys] 36)) w7 (some g) := G7.out
                    have hG8 : World.grownBy w7 w8 v7.ownBlock := G8.out
                    have hA8 : v8.ownBlock = v7.ownBlock ∨ v8.ownBlock = some (World.heap w7).size := A8.out
                    have hs7 : (World.heap w6).size.succ ≤ (World.heap w7).size := Nat.le_trans (by simp) hG7.size
                    obtain ⟨g8, c8, rfl, _, hg8⟩ := own_some0 hO9 (Nat.succ_pos q)
                    have hg8c : g8 = g ∨ (World.heap w6).size < g8 := by rcases hA8 with h | h; (rcases hA7 with h2 | h2 <;> (rw [h2] at h; injection h with h; simp at h; omega)); (injection h with h; simp at h; omega)
                    have hk8 : ∀ b, b < (World.heap w6).size → b ≠ g → w8.heap[b]? = w6.heap[b]? := fun b hb hne => (hG8.block b (by omega) (fun e => by rcases hA7 with h2 | h2 <;> (rw [h2] at e; injection e with e; omega))).trans ((hG7.block b (by simp; omega) (fun e => by injection e with e; exact hne e)).trans (((Below.refl _ (World.drew w6)).alloc (Nat.le_refl _) _).block b hb))
                    have hgb : w.heap.size < g ∧ g < (World.heap w6).size := ⟨by have := hgw.1; omega, hgw.2⟩
                    have hbw : Below w.heap.size w w8 := ⟨hG8.os.trans (hG7.os.trans BW.out.os), hG8.tape.trans (hG7.tape.trans BW.out.tape), hG8.output.trans (hG7.output.trans BW.out.output), Nat.le_trans BW.out.size (Nat.le_trans (by simp) (Nat.le_trans hs7 hG8.size)), fun b hb => (hk8 b (by omega) (by omega)).trans (BW.out.block b hb)⟩
                    have Z1 := Lib.hid hbw
                    have Z2 := Lib.hid (SB.out.keep (hk8 _ (by omega) (by omega)))
                    have Z3 := Lib.hid (ownsRow_keep (base' := w.heap.size) MO.out (fun b hb => ⟨(MO.out.lt b hb).1, hk8 b (MO.out.lt b hb).2 (MN.out b hb)⟩))
                    have Z4 := Lib.hid (show ∀ b, (Value.slice A1 m1 c1).ownBlock = some b → b ≠ g8 from fun b hb e => by have h1 := MN.out b hb; have h2 := (MO.out.lt b hb).2; have h3 : b < (World.heap w6).size := h2; omega)
                    have Z5 := Lib.hid (show ∀ y ∈ acc.take (m' + 1) ++ ⟨yr, ys⟩ :: acc.drop (m' + 1), comB xs y = true from fun y hy => by rcases List.mem_append.1 hy with h | h; (exact HC.out y (List.mem_of_mem_take h)); (rcases List.mem_cons.1 h with rfl | h; (exact HCY.out); (exact HC.out y (List.mem_of_mem_drop h))))
                    have Z6 := Lib.hid hO9
                    have Z7 := Lib.hid (show q + 1 = (acc.take (m' + 1) ++ ⟨yr, ys⟩ :: acc.drop (m' + 1)).length from by rw [List.length_append, List.length_cons, List.length_take, List.length_drop, ← HQ.out]; omega)
                    clear hO9 hA7 hG7 hG8 hA8 hs7 hg8 hg8c hk8 hgb hbw hq1 hce O8 G8 A8 O7 G7 A7 R7 HRS HTO O6 HNR HLR
                    go_wp2
                    exact ⟨⟨j + 1, q + 1, g8, c8, _, by omega, by go_num, rfl, Z7.out, by omega, HT3.out, Z5.out, Z6.out, Z2.out, Z3.out, Z4.out, Z1.out⟩, by simp only [intOf]; omega⟩
    · have hjn : j = n := by omega
      subst hjn
      have hd : (idsOf xs).drop j = [] := List.drop_eq_nil_of_le (by unfold idsOf; rw [List.length_map]; have := HN.out; omega)
      rw [hd, partFrom] at hT
      subst hT
      go_wp2
      go_ret
      exact ⟨_, _, _, rfl, HQ.out, ownsRow_keep HO.out (fun b hb => ⟨by have := (HO.out.lt b hb).1; omega, rfl⟩), BW.out⟩

end Go.Proofs.Ytoffelfcmfpooaa
