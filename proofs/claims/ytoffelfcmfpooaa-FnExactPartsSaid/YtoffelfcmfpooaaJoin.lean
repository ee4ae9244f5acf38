/-
  Rows of Ids joined: spec.l8Join. Conditions: bounds on the lengths.
-/
import Derived.Test.YtoffelfcmfpooaaOrd
import Derived.Test.YtoffelfcmfpooaaIdsB
import Derived.Test.YtoffelfcmfpooaaAttrsS
namespace Go.Proofs.Ytoffelfcmfpooaa
open Go.RowKit

theorem rep_ids {B : Nat → Prop} {w : World} : ∀ {xs : List IdD} {cells : List Value}, Rep B w (cat IdD.c xs) cells → cells = idCells xs
  | [], _, h => by simp only [cat, Rep] at h; rw [h]; rfl
  | s :: r, _, h => by
    rw [cat_cons] at h
    obtain ⟨c1, c2, rfl, h1, h2⟩ := Rep.app.1 h
    rw [IdD.open h1, rep_ids h2]
    rfl
theorem idCells_drop : ∀ (xs : List IdD) (i : Nat), (idCells xs).drop (i * 2) = idCells (xs.drop i)
  | xs, 0 => by simp
  | [], i + 1 => by simp [idCells]
  | x :: xs, i + 1 => by
    rw [List.drop_succ_cons, ← idCells_drop xs i, show (i + 1) * 2 = i * 2 + 2 by omega, idCells]
    rfl
theorem reads_drop {w : World} {ad : Addr} {n i : Nat} {cells : List Value} (h : Reads w 2 (some ad) n cells) (hi : i ≤ n) : Reads w 2 (some (ad.add (i * 2))) (n - i) (cells.drop (i * 2)) := by
  refine ⟨by rw [List.length_drop, h.1]; omega, fun h0 => ⟨_, rfl, fun j u hu => ?_⟩⟩
  obtain ⟨ad', e, hc⟩ := h.2 (by omega)
  injection e with e
  subst e
  rw [List.getElem?_drop] at hu
  rw [add_of_add]
  exact hc _ _ hu
theorem _root_.Go.World.ownsRow.keptBelowJ {w w' : World} {base e sz n : Nat} {v : Value} {xs : List Value} (h : w.ownsRow base e sz v n xs) (hb : Below w.heap.size w w') : w'.ownsRow base e sz v n xs :=
  ownsRow_keep h (fun b hk => ⟨(h.lt b hk).1, hb.block b (h.lt b hk).2⟩)

set_option maxRecDepth 100000 in
set_option maxHeartbeats 8000000 in
theorem l8Join_any (xs ys : List IdD) (A A' : Option Addr) (n n' c c' : Nat) (w : World) (hn : n = xs.length) (hn' : n' = ys.length) (hwt : n ≤ 1048576) (hwt' : n' ≤ 1048576) (hcap : n ≤ c) (h : Rep anyB w (.sl 36 2 n (cat IdD.c xs) .nil) [.slice A n c]) (h' : Rep anyB w (.sl 36 2 n' (cat IdD.c ys) .nil) [.slice A' n' c']) :
    Calls Try.prog 104 #[.slice A n c, .slice A' n' c'] w fun e w' => ∃ A2 c2, e = .returned (.slice A2 (joinF xs ys).length c2) ∧ w'.ownsRow w.heap.size 36 2 (.slice A2 (joinF xs ys).length c2) (joinF xs ys).length (idCells (joinF xs ys)) ∧ Below w.heap.size w w' := by
  have HN := Lib.hid hn; clear hn
  have HN' := Lib.hid hn'; clear hn'
  have HR := Lib.hid h; clear h
  have HR' := Lib.hid h'; clear h'
  have htl := joinF_len xs ys
  obtain ⟨T, hT⟩ : ∃ T, T = joinF xs ys := ⟨_, rfl⟩
  rw [← hT] at htl ⊢
  have htl2 : T.length ≤ 2097152 := by have := HN.out; have := HN'.out; omega
  have HT := Lib.hid hT; clear hT htl
  go_enter Try.func104, Try.ntmps104
  go_wp2
  go_loopw [5, 6, 7] (fun oo ii kk wr => ∃ (acc : List IdD) (q i k : Nat) (Av : Option Addr) (kv : Nat), i ≤ n ∧ k ≤ n' ∧ q = acc.length ∧ q ≤ 2097152 ∧ oo = .slice Av q kv ∧ ii = .int .i64 (i : Int) ∧ kk = .int .i64 (k : Int) ∧ acc ++ joinF (xs.drop i) (ys.drop k) = T ∧ wr.ownsRow w.heap.size 36 2 (.slice Av q kv) q (idCells acc) ∧ Below w.heap.size w wr) (fun _ _ kk _ => n' - (intOf kk).toNat)
  case atStart => exact ⟨[], 0, 0, 0, some ⟨w.heap.size, 0, none⟩, 0, Nat.zero_le _, Nat.zero_le _, rfl, by omega, rfl, rfl, rfl, by rw [HT.out]; rfl, World.ownsRow_made w #[] 0 (Nat.le_refl _) (by simp [maxLen]) rfl, (by repeat' (first | with_reducible exact Below.refl _ _ | with_reducible exact BW.out | with_reducible refine Below.setCell ?_ ?_ _ | with_reducible refine Below.alloc ?_ ?_ _ | with_reducible refine Below.drew ?_ | (simp; done) | (simp; omega) | omega))⟩
  case round =>
    obtain ⟨acc, q, i, k, Av, kv, hi, hk, hq, hqb, rfl, rfl, rfl, hT, hown, hbw⟩ := hrel
    by_cases hlt : k < n'
    · have hky : k < ys.length := by have := HN'.out; omega
      have hdy : ys.drop k = ys[k] :: ys.drop (k + 1) := List.drop_eq_getElem_cons hky
      rw [hdy] at hT
      obtain ⟨y, hy⟩ : ∃ y, y = ys[k] := ⟨_, rfl⟩
      rw [← hy] at hT
      have HY := Lib.hid hy; clear hy hdy
      have hT0 := hT; clear hT
      have HT0 := Lib.hid hT0; clear hT0
      have hown0 := hown; clear hown
      have HO0 := Lib.hid hown0; clear hown0
      have BW0 := Lib.hid hbw; clear hbw
      have HQ0 := Lib.hid hq; clear hq
      go_wp2
      go_loopw [5, 6] (fun oo ii wr => ∃ (acc : List IdD) (q i : Nat) (Av : Option Addr) (kv : Nat), i ≤ n ∧ q = acc.length ∧ q ≤ 2097152 ∧ oo = .slice Av q kv ∧ ii = .int .i64 (i : Int) ∧ acc ++ joinF (xs.drop i) (y :: ys.drop (k + 1)) = T ∧ wr.ownsRow w.heap.size 36 2 (.slice Av q kv) q (idCells acc) ∧ Below w.heap.size w wr) (fun _ ii _ => n - (intOf ii).toNat)
      case atStart => exact ⟨acc, q, i, Av, kv, hi, HQ0.out, hqb, rfl, rfl, HT0.out, HO0.out, BW0.out⟩
      case round =>
        clear HT0 HO0 BW0 HQ0 hi hqb
        obtain ⟨acc, q, i, Av, kv, hi, hq, hqb, rfl, rfl, hT, hown, hbw⟩ := hrel
        have HTT := Lib.hid hT
        have HO := Lib.hid hown; clear hown
        have BW := Lib.hid hbw; clear hbw
        have HQ := Lib.hid hq; clear hq
        obtain ⟨ad', cy, rfl, _, _, hrc, hl, hc⟩ := (HR'.out.below BW.out).elem IdD.width k hky HN'.out
        rw [← HY.out] at hrc
        obtain rfl := IdD.open hrc
        have HCY := Lib.hid hc
        have HRY := Lib.hid hrc
        clear hc hrc hl
        obtain ⟨yr, ysl⟩ := y
        simp only [] at HCY
        by_cases hin : i < n
        · have hix : i < xs.length := by have := HN.out; omega
          have hdx : xs.drop i = xs[i] :: xs.drop (i + 1) := List.drop_eq_getElem_cons hix
          obtain ⟨ad, cx, rfl, _, _, hrc, hl, hc⟩ := (HR.out.below BW.out).elem IdD.width i hix HN.out
          rw [hdx] at hT
          obtain rfl := IdD.open hrc
          generalize xs[i] = x at *
          obtain ⟨xr, xsl⟩ := x
          simp only [] at hc
          have HCX := Lib.hid hc
          have HRX := Lib.hid hrc
          have HDX := Lib.hid hdx
          clear hc hrc hl hdx
          have hlen := congrArg List.length hT
          rw [List.length_append] at hlen
          have hq1 := HQ.out
          cases hlt2 : idLt ⟨xr, xsl⟩ ⟨yr, ysl⟩
          case true =>
            rw [joinF_lt hlt2] at hT hlen
            simp only [List.length_cons] at hlen
            have hqq : q + 1 ≤ 2097152 := by omega
            have HLT := Lib.hid hlt2; clear hlt2
            have HTn := Lib.hid (show (acc ++ [⟨xr, xsl⟩]) ++ joinF (xs.drop (i + 1)) (⟨yr, ysl⟩ :: ys.drop (k + 1)) = T by rw [← hT, List.append_assoc]; rfl)
            clear hT hlen hq1
            go_wp2
            refine wp_region_x 15 [0, 1, 2, 3, 4, 5, 6, 7, 8, 9, 10, 11, 12, 13, 14] (by kernel_rfl) (by kernel_rfl) ?_
            iterate 8 (refine wpX_quiet rfl (by kernel_rfl) rfl ?_; go_wp2; refine ⟨rfl, ?_⟩)
            refine wpX_quiet rfl (by kernel_rfl) rfl ?_; refine wpList_load_row_g _ rfl (ad.add (i * 2)) rfl [.int .i64 xr, .int .i64 xsl] agg_Id rfl HCX.out ?_; go_wp2; refine ⟨rfl, ?_⟩
            iterate 3 (refine wpX_quiet rfl (by kernel_rfl) rfl ?_; go_wp2; refine ⟨rfl, ?_⟩)
            refine wpX_quiet rfl (by kernel_rfl) rfl ?_; refine wpList_load_row_g _ rfl (ad'.add (k * 2)) rfl [.int .i64 yr, .int .i64 ysl] agg_Id rfl HCY.out ?_; go_wp2; refine ⟨rfl, ?_⟩
            refine wpX_actor rfl (by kernel_rfl) ?_; go_wp2_with fail
            refine (l8Less_any ⟨xr, xsl⟩ ⟨yr, ysl⟩ [.int .i64 xr, .int .i64 xsl] [.int .i64 yr, .int .i64 ysl] _ HRX.out.drew HRY.out.drew).mono ?_; rintro e v2 ⟨rfl, hb⟩
            rw [HLT.out]
            have HB := Lib.hid hb
            have HO2 := Lib.hid (HO.out.drew.keptBelowJ hb)
            have BW2 := Lib.hid (show Below w.heap.size w v2 from BW.out.trans ((below_drewL hb).mono BW.out.size))
            have HCX2 := Lib.hid (cells_below HCX.out (below_drewL hb))
            have HCY2 := Lib.hid (cells_below HCY.out (below_drewL hb))
            clear hb
            go_wp2
            refine ⟨Ext.of_below HB.out, ?_⟩
            iterate 1 (refine wpX_quiet rfl (by kernel_rfl) rfl ?_; go_wp2; refine ⟨rfl, ?_⟩)
            refine wpX_nil ?_; simp only [List.drop_succ_cons, List.drop_zero]
            go_wp2_with (first | ((with_reducible show wpList _ _ _ ({ dst := _, op := Op.load 36 _, type := _, pos := _, after := _, guard := _ } :: _) _ _); refine wpList_load_row _ (ad.add (i * 2)) rfl [.int .i64 xr, .int .i64 xsl] agg_Id rfl HCX2.out ?_) | (at_builtin; go_must (refine wpList_app E_Id _ rfl _ _ rfl w.heap.size _ q _ rfl (HO2.out.alloc _) _ _ _ _ rfl (Reads.new rfl) (by simp [Value.oneCell']) (by omega) (Nat.le_trans BW2.out.size (by simp)) ?_; intro vv w3 hown3 hg3 hat3; obtain ⟨Av3, kv3, rfl, _⟩ := SlR.of_own hown3; have HO3 := Lib.hid hown3; have HB3 := Lib.hid (Below.grown ((BW2.out).alloc (BW2.out).size _) hg3 (Nat.le_trans (BW2.out).size (by simp)) (fun k hk => (HO2.out.lt k hk).1)); clear hown3 hg3 hat3)) | fail)
            exact ⟨⟨acc ++ [⟨xr, xsl⟩], q + 1, i + 1, Av3, kv3, by omega, by rw [List.length_append, ← HQ.out]; rfl, hqq, rfl, by go_num, HTn.out, by rw [idCells_app]; exact HO3.out, HB3.out⟩, by simp only [intOf]; omega⟩
          case false =>
            have HLT := Lib.hid hlt2
            by_cases hxy : (⟨xr, xsl⟩ : IdD) = ⟨yr, ysl⟩
            · rw [hxy, joinF_eq] at hT
              rw [hxy, joinF_eq] at hlen
              simp only [List.length_cons] at hlen
              have hqq : q + 1 ≤ 2097152 := by omega
              injection hxy with e1 e2
              subst e1 e2
              have HTn := Lib.hid (show (acc ++ [⟨xr, xsl⟩]) ++ joinF (xs.drop (i + 1)) (ys.drop (k + 1)) = T by rw [← hT, List.append_assoc]; rfl)
              clear hT hlen hq1 hlt2
              go_wp2
              refine wp_region_x 15 [0, 1, 2, 3, 4, 5, 6, 7, 8, 9, 10, 11, 12, 13, 14] (by kernel_rfl) (by kernel_rfl) ?_
              iterate 8 (refine wpX_quiet rfl (by kernel_rfl) rfl ?_; go_wp2; refine ⟨rfl, ?_⟩)
              refine wpX_quiet rfl (by kernel_rfl) rfl ?_; refine wpList_load_row_g _ rfl (ad.add (i * 2)) rfl [.int .i64 xr, .int .i64 xsl] agg_Id rfl HCX.out ?_; go_wp2; refine ⟨rfl, ?_⟩
              iterate 3 (refine wpX_quiet rfl (by kernel_rfl) rfl ?_; go_wp2; refine ⟨rfl, ?_⟩)
              refine wpX_quiet rfl (by kernel_rfl) rfl ?_; refine wpList_load_row_g _ rfl (ad'.add (k * 2)) rfl [.int .i64 xr, .int .i64 xsl] agg_Id rfl HCY.out ?_; go_wp2; refine ⟨rfl, ?_⟩
              refine wpX_actor rfl (by kernel_rfl) ?_; go_wp2_with fail
              refine (l8Less_any ⟨xr, xsl⟩ ⟨xr, xsl⟩ [.int .i64 xr, .int .i64 xsl] [.int .i64 xr, .int .i64 xsl] _ HRX.out.drew HRY.out.drew).mono ?_; rintro e v2 ⟨rfl, hb⟩
              rw [HLT.out]
              have HB := Lib.hid hb
              have HO2 := Lib.hid (HO.out.drew.keptBelowJ hb)
              have BW2 := Lib.hid (show Below w.heap.size w v2 from BW.out.trans ((below_drewL hb).mono BW.out.size))
              have HCX2 := Lib.hid (cells_below HCX.out (below_drewL hb))
              have HCY2 := Lib.hid (cells_below HCY.out (below_drewL hb))
              clear hb
              go_wp2
              refine ⟨Ext.of_below HB.out, ?_⟩
              iterate 1 (refine wpX_quiet rfl (by kernel_rfl) rfl ?_; go_wp2; refine ⟨rfl, ?_⟩)
              refine wpX_nil ?_; simp only [List.drop_succ_cons, List.drop_zero]
              go_wp2
              refine wp_region_x 13 [0, 1, 2, 3, 4, 5, 6, 7, 8, 9, 10, 11, 12] (by kernel_rfl) (by kernel_rfl) ?_
              iterate 8 (refine wpX_quiet rfl (by kernel_rfl) rfl ?_; go_wp2; refine ⟨rfl, ?_⟩)
              refine wpX_quiet rfl (by kernel_rfl) rfl ?_; refine wpList_load_row_g _ rfl (ad.add (i * 2)) rfl [.int .i64 xr, .int .i64 xsl] agg_Id rfl HCX2.out ?_; go_wp2; refine ⟨rfl, ?_⟩
              iterate 3 (refine wpX_quiet rfl (by kernel_rfl) rfl ?_; go_wp2; refine ⟨rfl, ?_⟩)
              refine wpX_quiet rfl (by kernel_rfl) rfl ?_; refine wpList_load_row_g _ rfl (ad'.add (k * 2)) rfl [.int .i64 xr, .int .i64 xsl] agg_Id rfl HCY2.out ?_; go_wp2; refine ⟨rfl, ?_⟩
              refine wpX_nil ?_; simp only [List.drop_succ_cons, List.drop_zero]
              go_wp2_with (first | ((with_reducible show wpList _ _ _ ({ dst := _, op := Op.load 36 _, type := _, pos := _, after := _, guard := _ } :: _) _ _); refine wpList_load_row _ (ad'.add (k * 2)) rfl [.int .i64 xr, .int .i64 xsl] agg_Id rfl HCY2.out ?_) | (at_builtin; go_must (refine wpList_app E_Id _ rfl _ _ rfl w.heap.size _ q _ rfl ((HO2.out.alloc _).drew) _ _ _ _ rfl (Reads.new rfl) (by simp [Value.oneCell']) (by omega) (Nat.le_trans BW2.out.size (by simp)) ?_; intro vv w3 hown3 hg3 hat3; obtain ⟨Av3, kv3, rfl, _⟩ := SlR.of_own hown3; have HO3 := Lib.hid hown3; have HB3 := Lib.hid (Below.grown (((BW2.out).alloc (BW2.out).size _).drew) hg3 (Nat.le_trans (BW2.out).size (by simp)) (fun k hk => (HO2.out.lt k hk).1)); clear hown3 hg3 hat3)) | fail)
              exact ⟨⟨acc ++ [⟨xr, xsl⟩], q + 1, i + 1, k + 1, Av3, kv3, by omega, by omega, by rw [List.length_append, ← HQ.out]; rfl, by omega, rfl, by go_num, by go_num, HTn.out, by rw [idCells_app]; exact HO3.out, HB3.out⟩, by simp only [intOf]; omega⟩
            · skip
              rw [joinF_gt hlt2 hxy] at hT hlen
              simp only [List.length_cons] at hlen
              have hqq : q + 1 ≤ 2097152 := by omega
              have HTn := Lib.hid (show (acc ++ [⟨yr, ysl⟩]) ++ joinF (⟨xr, xsl⟩ :: xs.drop (i + 1)) (ys.drop (k + 1)) = T by rw [← hT, List.append_assoc]; rfl)
              rw [← HDX.out] at HTn
              clear hT hlen hq1 hlt2
              by_cases e1 : xr = yr
              · skip
                subst e1
                have e2 : (xsl == ysl) = false := by simp only [beq_eq_false_iff_ne]; intro h; exact hxy (by rw [h])
                have e3 : (ysl == xsl) = false := by simp only [beq_eq_false_iff_ne]; intro h; exact hxy (by rw [h])
                clear hxy
                go_wp2
                refine wp_region_x 15 [0, 1, 2, 3, 4, 5, 6, 7, 8, 9, 10, 11, 12, 13, 14] (by kernel_rfl) (by kernel_rfl) ?_
                iterate 8 (refine wpX_quiet rfl (by kernel_rfl) rfl ?_; go_wp2; refine ⟨rfl, ?_⟩)
                refine wpX_quiet rfl (by kernel_rfl) rfl ?_; refine wpList_load_row_g _ rfl (ad.add (i * 2)) rfl [.int .i64 xr, .int .i64 xsl] agg_Id rfl HCX.out ?_; go_wp2; refine ⟨rfl, ?_⟩
                iterate 3 (refine wpX_quiet rfl (by kernel_rfl) rfl ?_; go_wp2; refine ⟨rfl, ?_⟩)
                refine wpX_quiet rfl (by kernel_rfl) rfl ?_; refine wpList_load_row_g _ rfl (ad'.add (k * 2)) rfl [.int .i64 xr, .int .i64 ysl] agg_Id rfl HCY.out ?_; go_wp2; refine ⟨rfl, ?_⟩
                refine wpX_actor rfl (by kernel_rfl) ?_; go_wp2_with fail
                refine (l8Less_any ⟨xr, xsl⟩ ⟨xr, ysl⟩ [.int .i64 xr, .int .i64 xsl] [.int .i64 xr, .int .i64 ysl] _ HRX.out.drew HRY.out.drew).mono ?_; rintro e v2 ⟨rfl, hb⟩
                rw [HLT.out]
                have HB := Lib.hid hb
                have HO2 := Lib.hid (HO.out.drew.keptBelowJ hb)
                have BW2 := Lib.hid (show Below w.heap.size w v2 from BW.out.trans ((below_drewL hb).mono BW.out.size))
                have HCX2 := Lib.hid (cells_below HCX.out (below_drewL hb))
                have HCY2 := Lib.hid (cells_below HCY.out (below_drewL hb))
                clear hb
                go_wp2
                refine ⟨Ext.of_below HB.out, ?_⟩
                iterate 1 (refine wpX_quiet rfl (by kernel_rfl) rfl ?_; go_wp2; refine ⟨rfl, ?_⟩)
                refine wpX_nil ?_; simp only [List.drop_succ_cons, List.drop_zero]
                go_wp2
                refine wp_region_x 13 [0, 1, 2, 3, 4, 5, 6, 7, 8, 9, 10, 11, 12] (by kernel_rfl) (by kernel_rfl) ?_
                iterate 8 (refine wpX_quiet rfl (by kernel_rfl) rfl ?_; go_wp2; refine ⟨rfl, ?_⟩)
                refine wpX_quiet rfl (by kernel_rfl) rfl ?_; refine wpList_load_row_g _ rfl (ad.add (i * 2)) rfl [.int .i64 xr, .int .i64 xsl] agg_Id rfl HCX2.out ?_; go_wp2; refine ⟨rfl, ?_⟩
                iterate 3 (refine wpX_quiet rfl (by kernel_rfl) rfl ?_; go_wp2; refine ⟨rfl, ?_⟩)
                refine wpX_quiet rfl (by kernel_rfl) rfl ?_; refine wpList_load_row_g _ rfl (ad'.add (k * 2)) rfl [.int .i64 xr, .int .i64 ysl] agg_Id rfl HCY2.out ?_; go_wp2; refine ⟨rfl, ?_⟩
                refine wpX_nil ?_; simp only [List.drop_succ_cons, List.drop_zero]
                go_wp2_with (first | ((with_reducible show wpList _ _ _ ({ dst := _, op := Op.load 36 _, type := _, pos := _, after := _, guard := _ } :: _) _ _); refine wpList_load_row _ (ad'.add (k * 2)) rfl [.int .i64 xr, .int .i64 ysl] agg_Id rfl HCY2.out ?_) | (at_builtin; go_must (refine wpList_app E_Id _ rfl _ _ rfl w.heap.size _ q _ rfl ((HO2.out.alloc _).drew) _ _ _ _ rfl (Reads.new rfl) (by simp [Value.oneCell']) (by omega) (Nat.le_trans BW2.out.size (by simp)) ?_; intro vv w3 hown3 hg3 hat3; obtain ⟨Av3, kv3, rfl, _⟩ := SlR.of_own hown3; have HO3 := Lib.hid hown3; have HB3 := Lib.hid (Below.grown (((BW2.out).alloc (BW2.out).size _).drew) hg3 (Nat.le_trans (BW2.out).size (by simp)) (fun k hk => (HO2.out.lt k hk).1)); clear hown3 hg3 hat3)) | fail)
                exact ⟨⟨acc ++ [⟨xr, ysl⟩], q + 1, i, k + 1, Av3, kv3, by omega, by omega, by rw [List.length_append, ← HQ.out]; rfl, by omega, rfl, rfl, by go_num, HTn.out, by rw [idCells_app]; exact HO3.out, HB3.out⟩, by simp only [intOf]; omega⟩
              · skip
                have e2 : (xr == yr) = false := by simp only [beq_eq_false_iff_ne]; exact e1
                have e3 : (yr == xr) = false := by simp only [beq_eq_false_iff_ne]; exact fun h => e1 h.symm
                clear hxy e1
                go_wp2
                refine wp_region_x 15 [0, 1, 2, 3, 4, 5, 6, 7, 8, 9, 10, 11, 12, 13, 14] (by kernel_rfl) (by kernel_rfl) ?_
                iterate 8 (refine wpX_quiet rfl (by kernel_rfl) rfl ?_; go_wp2; refine ⟨rfl, ?_⟩)
                refine wpX_quiet rfl (by kernel_rfl) rfl ?_; refine wpList_load_row_g _ rfl (ad.add (i * 2)) rfl [.int .i64 xr, .int .i64 xsl] agg_Id rfl HCX.out ?_; go_wp2; refine ⟨rfl, ?_⟩
                iterate 3 (refine wpX_quiet rfl (by kernel_rfl) rfl ?_; go_wp2; refine ⟨rfl, ?_⟩)
                refine wpX_quiet rfl (by kernel_rfl) rfl ?_; refine wpList_load_row_g _ rfl (ad'.add (k * 2)) rfl [.int .i64 yr, .int .i64 ysl] agg_Id rfl HCY.out ?_; go_wp2; refine ⟨rfl, ?_⟩
                refine wpX_actor rfl (by kernel_rfl) ?_; go_wp2_with fail
                refine (l8Less_any ⟨xr, xsl⟩ ⟨yr, ysl⟩ [.int .i64 xr, .int .i64 xsl] [.int .i64 yr, .int .i64 ysl] _ HRX.out.drew HRY.out.drew).mono ?_; rintro e v2 ⟨rfl, hb⟩
                rw [HLT.out]
                have HB := Lib.hid hb
                have HO2 := Lib.hid (HO.out.drew.keptBelowJ hb)
                have BW2 := Lib.hid (show Below w.heap.size w v2 from BW.out.trans ((below_drewL hb).mono BW.out.size))
                have HCX2 := Lib.hid (cells_below HCX.out (below_drewL hb))
                have HCY2 := Lib.hid (cells_below HCY.out (below_drewL hb))
                clear hb
                go_wp2
                refine ⟨Ext.of_below HB.out, ?_⟩
                iterate 1 (refine wpX_quiet rfl (by kernel_rfl) rfl ?_; go_wp2; refine ⟨rfl, ?_⟩)
                refine wpX_nil ?_; simp only [List.drop_succ_cons, List.drop_zero]
                go_wp2
                refine wp_region_x 13 [0, 1, 2, 3, 4, 5, 6, 7, 8, 9, 10, 11, 12] (by kernel_rfl) (by kernel_rfl) ?_
                iterate 8 (refine wpX_quiet rfl (by kernel_rfl) rfl ?_; go_wp2; refine ⟨rfl, ?_⟩)
                refine wpX_quiet rfl (by kernel_rfl) rfl ?_; refine wpList_load_row_g _ rfl (ad.add (i * 2)) rfl [.int .i64 xr, .int .i64 xsl] agg_Id rfl HCX2.out ?_; go_wp2; refine ⟨rfl, ?_⟩
                iterate 3 (refine wpX_quiet rfl (by kernel_rfl) rfl ?_; go_wp2; refine ⟨rfl, ?_⟩)
                refine wpX_quiet rfl (by kernel_rfl) rfl ?_; refine wpList_load_row_g _ rfl (ad'.add (k * 2)) rfl [.int .i64 yr, .int .i64 ysl] agg_Id rfl HCY2.out ?_; go_wp2; refine ⟨rfl, ?_⟩
                refine wpX_nil ?_; simp only [List.drop_succ_cons, List.drop_zero]
                go_wp2_with (first | ((with_reducible show wpList _ _ _ ({ dst := _, op := Op.load 36 _, type := _, pos := _, after := _, guard := _ } :: _) _ _); refine wpList_load_row _ (ad'.add (k * 2)) rfl [.int .i64 yr, .int .i64 ysl] agg_Id rfl HCY2.out ?_) | (at_builtin; go_must (refine wpList_app E_Id _ rfl _ _ rfl w.heap.size _ q _ rfl ((HO2.out.alloc _).drew) _ _ _ _ rfl (Reads.new rfl) (by simp [Value.oneCell']) (by omega) (Nat.le_trans BW2.out.size (by simp)) ?_; intro vv w3 hown3 hg3 hat3; obtain ⟨Av3, kv3, rfl, _⟩ := SlR.of_own hown3; have HO3 := Lib.hid hown3; have HB3 := Lib.hid (Below.grown (((BW2.out).alloc (BW2.out).size _).drew) hg3 (Nat.le_trans (BW2.out).size (by simp)) (fun k hk => (HO2.out.lt k hk).1)); clear hown3 hg3 hat3)) | fail)
                exact ⟨⟨acc ++ [⟨yr, ysl⟩], q + 1, i, k + 1, Av3, kv3, by omega, by omega, by rw [List.length_append, ← HQ.out]; rfl, by omega, rfl, rfl, by go_num, HTn.out, by rw [idCells_app]; exact HO3.out, HB3.out⟩, by simp only [intOf]; omega⟩
        · skip
          have hie : i = n := by omega
          subst hie
          have hdx : xs.drop i = [] := List.drop_of_length_le (by have := HN.out; omega)
          rw [hdx, joinF_nil] at hT
          have hlen := congrArg List.length hT
          rw [List.length_append] at hlen
          simp only [List.length_cons] at hlen
          have hq1 := HQ.out
          have hqq : q + 1 ≤ 2097152 := by omega
          have HTn := Lib.hid (show (acc ++ [⟨yr, ysl⟩]) ++ joinF (xs.drop i) (ys.drop (k + 1)) = T by rw [hdx, joinF_nil, ← hT, List.append_assoc]; rfl)
          clear hT hlen hq1 hdx
          go_wp2
          refine wp_region_x 15 [0, 1, 2, 3, 4, 5, 6, 7, 8, 9, 10, 11, 12, 13, 14] (by kernel_rfl) (by kernel_rfl) ?_
          iterate 5 (refine wpX_quiet rfl (by kernel_rfl) rfl ?_; go_wp2; refine ⟨rfl, ?_⟩)
          (iterate 6 (refine wpX_skip2 rfl rfl (by kernel_rfl) ?_)); simp only [List.setIfInBounds_toArray, List.set_cons_succ, List.set_cons_zero]; (iterate 3 (refine wpX_skip2 rfl rfl (by kernel_rfl) ?_)); simp only [List.setIfInBounds_toArray, List.set_cons_succ, List.set_cons_zero]
          iterate 1 (refine wpX_quiet rfl (by kernel_rfl) rfl ?_; go_wp2; refine ⟨rfl, ?_⟩)
          refine wpX_nil ?_; simp only [List.drop_succ_cons, List.drop_zero]
          go_wp2
          refine wp_region_x 15 [0, 1, 2, 3, 4, 5, 6, 7, 8, 9, 10, 11, 12, 13, 14] (by kernel_rfl) (by kernel_rfl) ?_
          iterate 5 (refine wpX_quiet rfl (by kernel_rfl) rfl ?_; go_wp2; refine ⟨rfl, ?_⟩)
          (iterate 6 (refine wpX_skip2 rfl rfl (by kernel_rfl) ?_)); simp only [List.setIfInBounds_toArray, List.set_cons_succ, List.set_cons_zero]; (iterate 3 (refine wpX_skip2 rfl rfl (by kernel_rfl) ?_)); simp only [List.setIfInBounds_toArray, List.set_cons_succ, List.set_cons_zero]
          iterate 1 (refine wpX_quiet rfl (by kernel_rfl) rfl ?_; go_wp2; refine ⟨rfl, ?_⟩)
          refine wpX_nil ?_; simp only [List.drop_succ_cons, List.drop_zero]
          go_wp2_with (first | ((with_reducible show wpList _ _ _ ({ dst := _, op := Op.load 36 _, type := _, pos := _, after := _, guard := _ } :: _) _ _); refine wpList_load_row _ (ad'.add (k * 2)) rfl [.int .i64 yr, .int .i64 ysl] agg_Id rfl HCY.out ?_) | (at_builtin; go_must (refine wpList_app E_Id _ rfl _ _ rfl w.heap.size _ q _ rfl ((HO.out.alloc _).drew.drew) _ _ _ _ rfl (Reads.new rfl) (by simp [Value.oneCell']) (by omega) (Nat.le_trans BW.out.size (by simp)) ?_; intro vv w3 hown3 hg3 hat3; obtain ⟨Av3, kv3, rfl, _⟩ := SlR.of_own hown3; have HO3 := Lib.hid hown3; have HB3 := Lib.hid (Below.grown (((BW.out).alloc (BW.out).size _).drew.drew) hg3 (Nat.le_trans (BW.out).size (by simp)) (fun k hk => (HO.out.lt k hk).1)); clear hown3 hg3 hat3)) | fail)
          exact ⟨⟨acc ++ [⟨yr, ysl⟩], q + 1, i, k + 1, Av3, kv3, by omega, by omega, by rw [List.length_append, ← HQ.out]; rfl, by omega, rfl, rfl, by go_num, HTn.out, by rw [idCells_app]; exact HO3.out, HB3.out⟩, by simp only [intOf]; omega⟩
    · have hke : k = n' := by omega
      subst hke
      have hdy : ys.drop k = [] := List.drop_of_length_le (by have := HN'.out; omega)
      rw [hdy, joinF_nil2] at hT
      have HTn := Lib.hid hT
      have HO := Lib.hid hown; clear hown
      have BW := Lib.hid hbw; clear hbw
      have HQ := Lib.hid hq; clear hq hT hdy
      obtain ⟨cells, hrd, hrc, _⟩ := HR.out.row
      obtain rfl := rep_ids hrc
      have HRD := Lib.hid (hrd.below BW.out)
      clear hrd hrc
      have hlenT : q + (n - i) = T.length := by rw [← HTn.out, List.length_append, List.length_drop, ← HQ.out, ← HN.out]
      have hcelT : idCells acc ++ idCells (xs.drop i) = idCells T := by rw [← HTn.out, idCells_app]
      have HLT := Lib.hid hlenT
      have HCT := Lib.hid hcelT
      have hm1 : q + (n - i) ≤ 2097152 := by omega
      have HONE := Lib.hid (show ∀ u ∈ idCells (xs.drop i), u.oneCell' = true from (own_ids wr 0 (xs.drop i)).one)
      clear hlenT hcelT
      have hdr := idCells_drop xs i
      by_cases hsl : c = i ∨ A = none
      · have hm0 : n - i = 0 := by
          rcases hsl with h | h
          · omega
          · subst h
            rcases Nat.eq_zero_or_pos n with h0 | h0
            · omega
            · obtain ⟨ad, e, _⟩ := HRD.out.2 h0
              cases e
        have hd0 : xs.drop i = [] := List.drop_of_length_le (by have := HN.out; omega)
        have HRT := Lib.hid (show ∀ B : Option Addr, Reads wr 2 B (n - i) (idCells (xs.drop i)) from fun B => by rw [hm0, hd0]; exact ⟨by simp [idCells], fun h => absurd h (by omega)⟩)
        clear hdr hm0 hd0
        rcases hsl with h | h
        · cases A with
          | none =>
            go_wp2_with (first | (at_builtin; go_must (refine wpList_app E_Id _ rfl _ _ rfl w.heap.size _ q _ rfl HO.out _ _ _ (idCells (xs.drop i)) rfl (HRT.out _) HONE.out (by omega) BW.out.size ?_; intro vv w3 hown3 hg3 hat3; obtain ⟨Av3, kv3, rfl, _⟩ := SlR.of_own hown3; have HO3 := Lib.hid hown3; have HB3 := Lib.hid (Below.grown BW.out hg3 BW.out.size (fun k hk => (HO.out.lt k hk).1)); clear hown3 hg3 hat3)) | fail)
            go_ret
            exact ⟨Av3, kv3, ret_eq (by rw [HLT.out]; rfl), by rw [← HLT.out, ← HCT.out]; exact HO3.out, HB3.out⟩
          | some ad =>
            go_wp2_with (first | (at_builtin; go_must (refine wpList_app E_Id _ rfl _ _ rfl w.heap.size _ q _ rfl HO.out _ _ _ (idCells (xs.drop i)) rfl (HRT.out _) HONE.out (by omega) BW.out.size ?_; intro vv w3 hown3 hg3 hat3; obtain ⟨Av3, kv3, rfl, _⟩ := SlR.of_own hown3; have HO3 := Lib.hid hown3; have HB3 := Lib.hid (Below.grown BW.out hg3 BW.out.size (fun k hk => (HO.out.lt k hk).1)); clear hown3 hg3 hat3)) | fail)
            go_ret
            exact ⟨Av3, kv3, ret_eq (by rw [HLT.out]; rfl), by rw [← HLT.out, ← HCT.out]; exact HO3.out, HB3.out⟩
        · subst h
          go_wp2_with (first | (at_builtin; go_must (refine wpList_app E_Id _ rfl _ _ rfl w.heap.size _ q _ rfl HO.out _ _ _ (idCells (xs.drop i)) rfl (HRT.out _) HONE.out (by omega) BW.out.size ?_; intro vv w3 hown3 hg3 hat3; obtain ⟨Av3, kv3, rfl, _⟩ := SlR.of_own hown3; have HO3 := Lib.hid hown3; have HB3 := Lib.hid (Below.grown BW.out hg3 BW.out.size (fun k hk => (HO.out.lt k hk).1)); clear hown3 hg3 hat3)) | fail)
          go_ret
          exact ⟨Av3, kv3, ret_eq (by rw [HLT.out]; rfl), by rw [← HLT.out, ← HCT.out]; exact HO3.out, HB3.out⟩
      · obtain ⟨ad, rfl⟩ : ∃ ad, A = some ad := by
          cases A with
          | none => exact absurd (Or.inr rfl) hsl
          | some ad => exact ⟨ad, rfl⟩
        have hci : ¬ c = i := fun h => hsl (.inl h)
        have hci2 : ¬ c - i = 0 := by omega
        have HRT := Lib.hid (show Reads wr 2 (some (ad.add (i * 2))) (n - i) (idCells (xs.drop i)) by rw [← hdr]; exact reads_drop HRD.out hi)
        clear hdr hsl
        go_wp2_with (first | (at_builtin; go_must (refine wpList_app E_Id _ rfl _ _ rfl w.heap.size _ q _ rfl HO.out _ _ _ (idCells (xs.drop i)) rfl HRT.out HONE.out (by omega) BW.out.size ?_; intro vv w3 hown3 hg3 hat3; obtain ⟨Av3, kv3, rfl, _⟩ := SlR.of_own hown3; have HO3 := Lib.hid hown3; have HB3 := Lib.hid (Below.grown BW.out hg3 BW.out.size (fun k hk => (HO.out.lt k hk).1)); clear hown3 hg3 hat3)) | fail)
        go_ret
        exact ⟨Av3, kv3, ret_eq (by rw [HLT.out]; rfl), by rw [← HLT.out, ← HCT.out]; exact HO3.out, HB3.out⟩

end Go.Proofs.Ytoffelfcmfpooaa
