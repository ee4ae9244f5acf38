/-
  slices.Compact at a row of Ids of the call's own. Conditions: a bound on the length.
-/
import Derived.Test.YtbdblfpepnoafaaCompQ
namespace Go.Proofs.Ytbdblfpepnoafaa
open Go.RowKit Go.Shelf Go.Lib

theorem compact_short : ∀ {xs : List IdD}, xs.length < 2 → compactF xs = xs
  | [], _ => rfl
  | [a], _ => rfl
  | a :: b :: r, h => by simp only [List.length_cons] at h; omega
theorem grown_dr {a b : World} {r : Option Nat} (h : a.grownBy b r) : a.grownBy b.drew r := ⟨h.os, h.tape, h.output, h.size, h.block⟩
theorem grown_tr {a b c : World} {r : Option Nat} (h : a.grownBy b r) (k : b.grownBy c r) : a.grownBy c r :=
  ⟨k.os.trans h.os, k.tape.trans h.tape, k.output.trans h.output, Nat.le_trans h.size k.size, fun j hj hn => (k.block j (Nat.lt_of_lt_of_le hj h.size) hn).trans (h.block j hj hn)⟩
set_option maxRecDepth 100000 in
set_option maxHeartbeats 2000000 in
theorem compact_own (base n c : Nat) (A : Option Addr) (xs : List IdD) (w : World) (hn : n = xs.length) (hn1 : n ≤ 4194304) (h : w.ownsRow base 32 2 (.slice A n c) n (idCells xs)) :
    Calls Try.prog 111 #[.slice A n c] w fun e w' =>
      ∃ m, e = .returned (.slice A m c) ∧ m = (compactF xs).length ∧ w'.ownsRow base 32 2 (.slice A m c) m (idCells (compactF xs)) ∧ w.grownBy w' (Value.slice A n c).ownBlock := by
  by_cases h2 : n < 2
  · have hc := compact_short (xs := xs) (by omega)
    have HH := Lib.hid h; clear h
    have HC := Lib.hid hc; clear hc
    have HN := Lib.hid hn; clear hn
    go_enter Try.func111, Try.ntmps111
    go_wp2
    go_ret
    exact ⟨n, ret_eq rfl, by rw [HC.out]; exact HN.out, by rw [HC.out]; exact HH.out, ⟨rfl, rfl, rfl, Nat.le_refl _, fun _ _ _ => rfl⟩⟩
  · obtain ⟨g, cap, cur, hv, hbg, hg, hnc, hcm, hs, ht⟩ := h.2.resolve_left (fun h0 => by omega)
    injection hv with e1 e2 e3
    subst e1 e3
    have hcap : xs.length ≤ c := by omega
    have HCM := Lib.hid (And.intro hcm hcap)
    have HBG := Lib.hid hbg
    have HO := Lib.hid h
    have HN := Lib.hid hn
    clear hg hnc hcm hs ht hbg e2
    have hnc : n ≤ c := by omega
    have hnm : c ≤ 9223372036854775807 := by have := HCM.out.1; simp only [maxLen] at this; omega
    clear h hn hcap
    have hcells : ∀ (wr : World) (_ : ∀ b, b < w.heap.size → wr.heap[b]? = w.heap[b]?) (j : Nat) (hj : j < xs.length), ∀ (u : Nat) (v : Value), [Value.int .i64 xs[j].rep, Value.int .i64 xs[j].slot][u]? = some v → wr.cell? ((⟨g, j * 2, none⟩ : Addr).add u) = some v := by
      intro wr hw j hj u v hv
      have hu : u < 2 := by
        rcases Nat.lt_or_ge u 2 with h | h
        · exact h
        · rw [List.getElem?_eq_none (by simpa using h)] at hv; cases hv
      have e := idCells_get xs (j * 2 + u) (by omega)
      rw [show (j * 2 + u) / 2 = j by omega, show (j * 2 + u) % 2 = u by omega, getElem!_pos xs j hj] at e
      have h3 := World.ownsRow.cells (g := g) HO.out rfl (j * 2 + u) _ e
      rw [add_plain, Nat.zero_add] at h3
      rw [add_plain, World.cell?_of_block (hw _ (HO.out.lt g rfl).2), h3]
      have : u = 0 ∨ u = 1 := by omega
      rcases this with rfl | rfl <;> simpa [encId] using hv
    have HC := Lib.hid hcells; clear hcells
    go_enter Try.func111, Try.ntmps111
    go_wp2
    go_loopw [3] (fun kk wr => ∃ k q : Nat, k + 1 ≤ n ∧ kk = .int .i64 ((k : Int) + 1) ∧ wr = w.drewN q ∧ compactF (xs.take (k + 1)) = xs.take (k + 1)) (fun kk _ => n - (intOf kk).toNat)
    case atStart => exact ⟨0, 0, by omega, rfl, rfl, compact_short (by rw [List.length_take]; omega)⟩
    case round =>
      obtain ⟨k, q, hk, rfl, rfl, hall⟩ := hrel
      have HALL := Lib.hid hall; clear hall
      by_cases hlt : k + 1 < n
      · have hk1 : k + 1 < xs.length := by have := HN.out; omega
        have hk0 : k < xs.length := by omega
        have c1 := HC.out (w.drewN q) (fun _ _ => rfl) (k + 1) hk1
        have c0 := HC.out (w.drewN q) (fun _ _ => rfl) k hk0
        have C1 := Lib.hid c1
        have C0 := Lib.hid c0
        clear c1 c0
        by_cases hxy : xs[k] = xs[k + 1]
        · have hst := fun W (hw : W = w.drewN (q + 1)) => CompSt.start (w := W) (c := c) (k := k + 1) HN.out (by subst hw; exact HO.out) (by omega) hk1 HALL.out hxy
          have HST := Lib.hid hst
          clear hst
          rw [hxy] at C0
          generalize xs[k + 1] = x at C1 C0
          obtain ⟨xr, xsl⟩ := x
          simp only [] at C1 C0
          clear hxy
          go_wp2_with fail
          refine wp_region_x 9 [0, 1, 2, 3, 4, 5, 6, 7, 8] (by kernel_rfl) (by kernel_rfl) ?_
          iterate 3 (refine wpX_quiet rfl (by kernel_rfl) rfl ?_; go_wp2; refine ⟨rfl, ?_⟩)
          refine wpX_quiet rfl (by kernel_rfl) rfl ?_; refine wpList_load_row _ _ rfl [.int .i64 xr, .int .i64 xsl] agg_Id rfl C1.out ?_; go_wp2; refine ⟨rfl, ?_⟩
          iterate 4 (refine wpX_quiet rfl (by kernel_rfl) rfl ?_; go_wp2; refine ⟨rfl, ?_⟩)
          refine wpX_quiet rfl (by kernel_rfl) rfl ?_; refine wpList_load_row _ _ rfl [.int .i64 xr, .int .i64 xsl] agg_Id rfl C0.out ?_; go_wp2; refine ⟨rfl, ?_⟩
          refine wpX_nil ?_; simp only [List.drop_succ_cons, List.drop_zero]
          go_wp2
          have hlc : k + 1 < c := by omega
          have hst := HST.out _ rfl
          have hgr : w.grownBy (w.drewN (q + 1)) (some g) := ⟨rfl, rfl, rfl, Nat.le_refl _, fun _ _ _ => rfl⟩
          have HS0 := Lib.hid (And.intro hst hgr)
          clear hst hgr HST C1 C0
          go_loopw [3, 5] (fun kk jj wr => ∃ (k' j : Nat), k + 1 + (j + 1) ≤ n ∧ kk = .int .i64 (k' : Int) ∧ jj = .int .i64 ((j : Int) + 1) ∧ CompSt wr g c xs (k + 1 + (j + 1)) k' ∧ w.grownBy wr (some g)) (fun _ jj _ => n - (intOf jj).toNat)
          case atStart => exact ⟨k + 1, 0, by omega, by go_num, rfl, HS0.out.1, HS0.out.2⟩
          case round =>
            clear HS0
            obtain ⟨k', j, hj, rfl, rfl, hst, hgr⟩ := hrel
            have hkl := hst.lt
            have ST := Lib.hid hst; clear hst
            have GR := Lib.hid hgr; clear hgr
            by_cases hl2 : k + 1 + (j + 1) < n
            · have hm1 : k + 1 + (j + 1) < xs.length := by have := HN.out; omega
              have hm0 : k + 1 + j < xs.length := by omega
              have c1 := ST.out.cell (k + 1 + (j + 1)) (by omega) hm1
              have c0 := ST.out.cell (k + 1 + j) (by omega) hm0
              have hsk := ST.out.skip hm1
              obtain ⟨AA, MM, CC, cur2, hb2, hc2, hA2, hM2, hst2⟩ := ST.out.split hm1
              have e0 : xs[k + 1 + (j + 1) - 1]'(by omega) = xs[k + 1 + j] := by congr 1
              rw [e0] at hsk hst2
              have ec1 : (⟨g, (k + 1 + (j + 1)) * 2, none⟩ : Addr) = ⟨g, (k + 1) * 2 + (j + 1) * 2, none⟩ := by rw [Nat.add_mul (k + 1)]
              have ec0 : (⟨g, (k + 1 + j) * 2, none⟩ : Addr) = ⟨g, (k + 1) * 2 + j * 2, none⟩ := by rw [Nat.add_mul (k + 1)]
              rw [ec1] at c1
              rw [ec0] at c0
              have HE := Lib.hid (And.intro ec1 ec0); clear ec1 ec0 e0
              generalize xs[k + 1 + (j + 1)] = x at *
              generalize xs[k + 1 + j] = y at *
              obtain ⟨xr, xsl⟩ := x
              obtain ⟨yr, ysl⟩ := y
              simp only [] at c1 c0 hst2
              have C1 := Lib.hid c1
              have C0 := Lib.hid c0
              have SK := Lib.hid hsk
              have SP := Lib.hid (And.intro (And.intro hb2 hc2) (And.intro hA2 hM2))
              have ST2 := Lib.hid hst2
              clear c1 c0 hsk hb2 hc2 hA2 hM2 hst2
              have hcj : ¬ c - (k + 1) = 0 := by omega
              by_cases hxy : (⟨yr, ysl⟩ : IdD) = ⟨xr, xsl⟩
              · have hs2 := SK.out hxy
                injection hxy with e1 e2
                subst e1 e2
                have S2 := Lib.hid hs2; clear hs2 SK ST2
                go_wp2_with fail
                refine wp_region_x 9 [0, 1, 2, 3, 4, 5, 6, 7, 8] (by kernel_rfl) (by kernel_rfl) ?_
                iterate 3 (refine wpX_quiet rfl (by kernel_rfl) rfl ?_; go_wp2; refine ⟨rfl, ?_⟩)
                refine wpX_quiet rfl (by kernel_rfl) rfl ?_; refine wpList_load_row _ _ rfl [.int .i64 yr, .int .i64 ysl] agg_Id rfl C1.out ?_; go_wp2; refine ⟨rfl, ?_⟩
                iterate 4 (refine wpX_quiet rfl (by kernel_rfl) rfl ?_; go_wp2; refine ⟨rfl, ?_⟩)
                refine wpX_quiet rfl (by kernel_rfl) rfl ?_; refine wpList_load_row _ _ rfl [.int .i64 yr, .int .i64 ysl] agg_Id rfl C0.out ?_; go_wp2; refine ⟨rfl, ?_⟩
                refine wpX_nil ?_; simp only [List.drop_succ_cons, List.drop_zero]
                go_wp2
                exact ⟨⟨k', j + 1, by omega, rfl, by go_num, S2.out.drew, grown_dr GR.out⟩, by simp only [intOf]; omega⟩
              · have HN2 := Lib.hid (fun W hW => ST2.out hxy W hW)
                clear SK ST2
                by_cases e1 : yr = xr
                · subst e1
                  have e2 : (xsl == ysl) = false := by simp only [beq_eq_false_iff_ne]; intro h; exact hxy (by rw [h])
                  have e3 : (ysl == xsl) = false := by simp only [beq_eq_false_iff_ne]; intro h; exact hxy (by rw [h])
                  clear hxy
                  go_wp2_with fail
                  refine wp_region_x 9 [0, 1, 2, 3, 4, 5, 6, 7, 8] (by kernel_rfl) (by kernel_rfl) ?_
                  iterate 3 (refine wpX_quiet rfl (by kernel_rfl) rfl ?_; go_wp2; refine ⟨rfl, ?_⟩)
                  refine wpX_quiet rfl (by kernel_rfl) rfl ?_; refine wpList_load_row _ _ rfl [.int .i64 yr, .int .i64 xsl] agg_Id rfl C1.out ?_; go_wp2; refine ⟨rfl, ?_⟩
                  iterate 4 (refine wpX_quiet rfl (by kernel_rfl) rfl ?_; go_wp2; refine ⟨rfl, ?_⟩)
                  refine wpX_quiet rfl (by kernel_rfl) rfl ?_; refine wpList_load_row _ _ rfl [.int .i64 yr, .int .i64 ysl] agg_Id rfl C0.out ?_; go_wp2; refine ⟨rfl, ?_⟩
                  refine wpX_nil ?_; simp only [List.drop_succ_cons, List.drop_zero]
                  go_wp2_with (first | ((with_reducible show wpList _ _ _ ({ dst := _, op := Op.load 32 _, type := _, pos := _, after := _, guard := _ } :: _) _ _); refine wpList_load_row _ _ rfl [.int .i64 yr, .int .i64 xsl] agg_Id rfl C1.out ?_) | ((with_reducible show wpList _ _ _ ({ dst := _, op := Op.store 32 _ _, type := _, pos := _, after := _, guard := _ } :: _) _ _); refine wpList_store_row _ g 32 (k' * 2) [.int .i64 yr, .int .i64 xsl] AA MM CC cur2 rfl rfl agg_Id SP.out.1.1 SP.out.1.2 SP.out.2.1 SP.out.2.2 (by simp [Value.oneCell']) ?_; intro w5 hb5 hg5; have HB5 := Lib.hid hb5; have HG5 := Lib.hid hg5; clear hb5 hg5) | fail)
                  exact ⟨⟨k' + 1, j + 1, by omega, by go_num, by go_num, HN2.out _ HB5.out, grown_tr (grown_dr GR.out) HG5.out⟩, by simp only [intOf]; omega⟩
                · have e2 : (xr == yr) = false := by simp only [beq_eq_false_iff_ne]; exact fun h => e1 h.symm
                  have e3 : (yr == xr) = false := by simp only [beq_eq_false_iff_ne]; exact e1
                  clear hxy e1
                  go_wp2_with fail
                  refine wp_region_x 9 [0, 1, 2, 3, 4, 5, 6, 7, 8] (by kernel_rfl) (by kernel_rfl) ?_
                  iterate 3 (refine wpX_quiet rfl (by kernel_rfl) rfl ?_; go_wp2; refine ⟨rfl, ?_⟩)
                  refine wpX_quiet rfl (by kernel_rfl) rfl ?_; refine wpList_load_row _ _ rfl [.int .i64 xr, .int .i64 xsl] agg_Id rfl C1.out ?_; go_wp2; refine ⟨rfl, ?_⟩
                  iterate 4 (refine wpX_quiet rfl (by kernel_rfl) rfl ?_; go_wp2; refine ⟨rfl, ?_⟩)
                  refine wpX_quiet rfl (by kernel_rfl) rfl ?_; refine wpList_load_row _ _ rfl [.int .i64 yr, .int .i64 ysl] agg_Id rfl C0.out ?_; go_wp2; refine ⟨rfl, ?_⟩
                  refine wpX_nil ?_; simp only [List.drop_succ_cons, List.drop_zero]
                  go_wp2_with (first | ((with_reducible show wpList _ _ _ ({ dst := _, op := Op.load 32 _, type := _, pos := _, after := _, guard := _ } :: _) _ _); refine wpList_load_row _ _ rfl [.int .i64 xr, .int .i64 xsl] agg_Id rfl C1.out ?_) | ((with_reducible show wpList _ _ _ ({ dst := _, op := Op.store 32 _ _, type := _, pos := _, after := _, guard := _ } :: _) _ _); refine wpList_store_row _ g 32 (k' * 2) [.int .i64 xr, .int .i64 xsl] AA MM CC cur2 rfl rfl agg_Id SP.out.1.1 SP.out.1.2 SP.out.2.1 SP.out.2.2 (by simp [Value.oneCell']) ?_; intro w5 hb5 hg5; have HB5 := Lib.hid hb5; have HG5 := Lib.hid hg5; clear hb5 hg5) | fail)
                  exact ⟨⟨k' + 1, j + 1, by omega, by go_num, by go_num, HN2.out _ HB5.out, grown_tr (grown_dr GR.out) HG5.out⟩, by simp only [intOf]; omega⟩
            · have hmn : k + 1 + (j + 1) = xs.length := by have := HN.out; omega
              have hst := ST.out
              rw [hmn] at hst
              have hl := hst.len
              rw [List.take_length] at hl
              obtain ⟨w', hcl, hown, hg'⟩ := CompSt.done HBG.out HCM.out.1 hst Try.prog 34 (.agg #[.int .i64 0, .int .i64 0]) Try.underlying34 (fun _ => rfl) rfl (by intro u hu; simp [Value.cells] at hu; subst hu; rfl)
              rw [← show n = xs.length from HN.out] at hcl
              have HOW := Lib.hid hown
              have HGW := Lib.hid hg'
              have HL := Lib.hid hl
              have hkn : k' < n := by omega
              have hkc : ¬ c - k' = 0 := by omega
              clear hown hg' hl hst
              go_wp2
              go_ret
              exact ⟨k', ret_eq rfl, HL.out, HOW.out, grown_tr GR.out HGW.out⟩
        · have hall2 := compactF_take (xs := xs) (m := k + 1) (by omega) hk1
          rw [if_neg (by exact hxy), HALL.out, ← List.take_succ_eq_append_getElem hk1] at hall2
          have HALL2 := Lib.hid hall2
          clear hall2
          generalize xs[k + 1] = x at *
          generalize xs[k] = y at *
          obtain ⟨xr, xsl⟩ := x
          obtain ⟨yr, ysl⟩ := y
          simp only [] at C1 C0
          by_cases e1 : yr = xr
          · subst e1
            have e2 : (xsl == ysl) = false := by simp only [beq_eq_false_iff_ne]; intro h; exact hxy (by rw [h])
            have e3 : (ysl == xsl) = false := by simp only [beq_eq_false_iff_ne]; intro h; exact hxy (by rw [h])
            clear hxy
            go_wp2_with fail
            refine wp_region_x 9 [0, 1, 2, 3, 4, 5, 6, 7, 8] (by kernel_rfl) (by kernel_rfl) ?_
            iterate 3 (refine wpX_quiet rfl (by kernel_rfl) rfl ?_; go_wp2; refine ⟨rfl, ?_⟩)
            refine wpX_quiet rfl (by kernel_rfl) rfl ?_; refine wpList_load_row _ _ rfl [.int .i64 yr, .int .i64 xsl] agg_Id rfl C1.out ?_; go_wp2; refine ⟨rfl, ?_⟩
            iterate 4 (refine wpX_quiet rfl (by kernel_rfl) rfl ?_; go_wp2; refine ⟨rfl, ?_⟩)
            refine wpX_quiet rfl (by kernel_rfl) rfl ?_; refine wpList_load_row _ _ rfl [.int .i64 yr, .int .i64 ysl] agg_Id rfl C0.out ?_; go_wp2; refine ⟨rfl, ?_⟩
            refine wpX_nil ?_; simp only [List.drop_succ_cons, List.drop_zero]
            go_wp2
            exact ⟨⟨k + 1, q + 1, by omega, by go_num, rfl, HALL2.out⟩, by simp only [intOf]; omega⟩
          · have e2 : (xr == yr) = false := by simp only [beq_eq_false_iff_ne]; exact fun h => e1 h.symm
            have e3 : (yr == xr) = false := by simp only [beq_eq_false_iff_ne]; exact e1
            clear hxy e1
            go_wp2_with fail
            refine wp_region_x 9 [0, 1, 2, 3, 4, 5, 6, 7, 8] (by kernel_rfl) (by kernel_rfl) ?_
            iterate 3 (refine wpX_quiet rfl (by kernel_rfl) rfl ?_; go_wp2; refine ⟨rfl, ?_⟩)
            refine wpX_quiet rfl (by kernel_rfl) rfl ?_; refine wpList_load_row _ _ rfl [.int .i64 xr, .int .i64 xsl] agg_Id rfl C1.out ?_; go_wp2; refine ⟨rfl, ?_⟩
            iterate 4 (refine wpX_quiet rfl (by kernel_rfl) rfl ?_; go_wp2; refine ⟨rfl, ?_⟩)
            refine wpX_quiet rfl (by kernel_rfl) rfl ?_; refine wpList_load_row _ _ rfl [.int .i64 yr, .int .i64 ysl] agg_Id rfl C0.out ?_; go_wp2; refine ⟨rfl, ?_⟩
            refine wpX_nil ?_; simp only [List.drop_succ_cons, List.drop_zero]
            go_wp2
            exact ⟨⟨k + 1, q + 1, by omega, by go_num, rfl, HALL2.out⟩, by simp only [intOf]; omega⟩
      · have hke : k + 1 = n := by omega
        subst hke
        have hc := HALL.out
        rw [show k + 1 = xs.length from HN.out, List.take_length] at hc
        have HCC := Lib.hid hc; clear hc
        go_wp2
        go_ret
        exact ⟨k + 1, ret_eq (by first | rfl | (congr 1)), by rw [HCC.out]; exact HN.out, by rw [HCC.out]; exact HO.out, ⟨rfl, rfl, rfl, Nat.le_refl _, fun _ _ _ => rfl⟩⟩

end Go.Proofs.Ytbdblfpepnoafaa
