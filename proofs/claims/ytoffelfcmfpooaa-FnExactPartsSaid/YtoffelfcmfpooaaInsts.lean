/-
  Right rows of instances: impl.InstsOk, spec.InstsOk. Conditions: bounds on the sizes.
-/
import Derived.Test.YtoffelfcmfpooaaInI
import Derived.Test.YtoffelfcmfpooaaInS
namespace Go.Proofs.Ytoffelfcmfpooaa
open Go.RowKit

def instsGood (xs : List InstD) (j : Nat) : Prop := ∀ i, i < j → ∃ x, xs[i]? = some x ∧ instOkB x = true ∧ ∀ y, i ≠ 0 → xs[i - 1]? = some y → idLt y.id x.id = true
open Classical in
noncomputable def instsOkB (xs : List InstD) : Bool := decide (instsGood xs xs.length)
theorem instsGood_zero (xs : List InstD) : instsGood xs 0 := fun i hi => absurd hi (Nat.not_lt_zero _)
theorem instsGood_succ {xs : List InstD} {j : Nat} (h : instsGood xs j) (hj : j < xs.length) (h1 : instOkB xs[j] = true) (h2 : ∀ y, j ≠ 0 → xs[j - 1]? = some y → idLt y.id xs[j].id = true) : instsGood xs (j + 1) := fun i hi => by
  by_cases hij : i = j
  · subst hij
    exact ⟨xs[i], List.getElem?_eq_getElem hj, h1, h2⟩
  · exact h i (by omega)
theorem instsOkB_yes {xs : List InstD} (h : instsGood xs xs.length) : instsOkB xs = true := by simp [instsOkB, h]
theorem instsOkB_no1 {xs : List InstD} {j : Nat} (hj : j < xs.length) (h1 : instOkB xs[j] = false) : instsOkB xs = false := by
  simp only [instsOkB, decide_eq_false_iff_not]
  intro h
  obtain ⟨x, h2, h3, _⟩ := h j hj
  rw [List.getElem?_eq_getElem hj] at h2
  injection h2 with h2
  rw [h2, h3] at h1
  cases h1
theorem instsOkB_no2 {xs : List InstD} {j : Nat} (hj : j + 1 < xs.length) (h1 : idLt (xs[j]'(by omega)).id xs[j + 1].id = false) : instsOkB xs = false := by
  simp only [instsOkB, decide_eq_false_iff_not]
  intro h
  obtain ⟨x, h2, _, h3⟩ := h (j + 1) hj
  rw [List.getElem?_eq_getElem hj] at h2
  injection h2 with h2
  have := h3 (xs[j]'(by omega)) (by omega) (List.getElem?_eq_getElem (by omega))
  rw [← h2, h1] at this
  cases this
theorem id_cells {B : Nat → Prop} {w w' : World} {x : InstD} {cs : List Value} {p : Addr} (h : Rep B w' x.c cs) (hc : ∀ f v, cs[f]? = some v → w.cell? (p.add f) = some v) : ∀ f v, [Value.int .i64 x.id.rep, Value.int .i64 x.id.slot][f]? = some v → w.cell? (p.add f) = some v := by
  obtain ⟨A0, k0, A1, k1, rfl, _⟩ := InstD.open h
  intro f v hv
  refine hc f v ?_
  have hlt := (List.getElem?_eq_some_iff.1 hv).1
  have := List.getElem?_append_left (l₁ := [Value.int .i64 x.id.rep, Value.int .i64 x.id.slot]) (l₂ := [Value.int .i64 x.bal, Value.int .i64 x.vbal, Value.int .i64 x.status, Value.int .i64 x.cmd.kind, Value.int .i64 x.cmd.client, Value.int .i64 x.cmd.no, Value.string (bs x.cmd.set), Value.string (bs x.cmd.name), Value.string (bs x.cmd.tag), Value.int .i64 x.cmd.n, Value.slice A0 x.cmd.chunks.length k0, Value.int .i64 x.seq, Value.slice A1 x.deps.length k1, Value.bool x.same]) hlt
  exact this.trans hv


set_option maxRecDepth 100000 in
set_option maxHeartbeats 2000000 in
theorem sInstsOk_all (xs : List InstD) (A : Option Addr) (n c : Nat) (w : World) (hn : n = xs.length) (hnb : n ≤ 2097152) (hwt : ∀ y ∈ xs, (y.c).wt ≤ 1048576) (h : Rep anyB w (.sl 40 16 n (cat InstD.c xs) .nil) [.slice A n c]) :
    Calls Try.prog 29 #[.slice A n c] w fun e w' => e = .returned (.bool (instsOkB xs)) ∧ Below w.heap.size w w' := by
  have HWX := Lib.hid hwt; clear hwt
  have HN := Lib.hid hn; clear hn
  have HR := Lib.hid h; clear h
  go_enter Try.func29, Try.ntmps29
  go_wp2
  go_loopw [3] (fun ii wr => ∃ j : Nat, j ≤ n ∧ ii = .int .i64 (j : Int) ∧ instsGood xs j ∧ Below w.heap.size w wr) (fun ii _ => n - (intOf ii).toNat)
  case atStart => exact ⟨0, Nat.zero_le _, rfl, instsGood_zero _, Below.refl _ _⟩
  case round =>
    obtain ⟨j, hj, rfl, hgood, hbel⟩ := hrel
    have HG := Lib.hid hgood; clear hgood
    have BW := Lib.hid hbel; clear hbel
    by_cases hlt : j < n
    · have hjx : j < xs.length := by have := HN.out; omega
      obtain ⟨ad, ci, rfl, _, _, hrc, hl, hc⟩ := (HR.out.below BW.out).elem InstD.width j hjx HN.out
      have hwx : (xs[j].c).wt ≤ 1048576 := HWX.out _ (List.getElem_mem hjx)
      have hno1 := fun h => instsOkB_no1 hjx h
      have hsucc := fun h1 h2 => instsGood_succ HG.out hjx h1 h2
      have hno2 : ∀ m, (hm : j = m + 1) → idLt (xs[m]'(by omega)).id xs[j].id = false → instsOkB xs = false := fun m hm h => by subst hm; exact instsOkB_no2 hjx h
      have HNO1 := Lib.hid hno1; clear hno1
      have HSU := Lib.hid hsucc; clear hsucc
      have HNO2 := Lib.hid hno2; clear hno2
      have HX := Lib.hid (show xs[j]? = some xs[j] from List.getElem?_eq_getElem hjx)
      generalize xs[j] = x at *
      have HL := Lib.hid hl; clear hl
      have HC := Lib.hid hc; clear hc
      have HRC := Lib.hid hrc; clear hrc
      cases hok : instOkB x with
      | false =>
        have HF := Lib.hid (HNO1.out hok)
        have HOK := Lib.hid hok; clear hok
        go_wp2
        refine wp_region_x 25 [0, 1, 2, 3, 4, 5, 6, 7, 8, 9, 10, 11, 12, 13, 14, 15, 16, 17, 18, 19, 20, 21, 22, 23, 24] (by kernel_rfl) (by kernel_rfl) ?_
        iterate 3 (refine wpX_quiet rfl (by kernel_rfl) rfl ?_; go_wp2; refine ⟨rfl, ?_⟩)
        refine wpX_quiet rfl (by kernel_rfl) rfl ?_; go_wp2_with (first | (refine wpList_load_row _ (ad.add (j * 16)) rfl ci agg_Inst HL.out HC.out ?_) | fail); refine ⟨rfl, ?_⟩
        refine wpX_actor rfl (by kernel_rfl) ?_; go_wp2_with fail
        refine (sInstOk_any x ci _ hwx HRC.out.drew).mono ?_; rintro e v1 ⟨rfl, hb⟩
        rw [HOK.out]
        have HB := Lib.hid hb; clear hb
        go_wp2
        refine ⟨Ext.of_below HB.out, ?_⟩
        iterate 2 (refine wpX_quiet rfl (by kernel_rfl) rfl ?_; go_wp2; refine ⟨rfl, ?_⟩)
        (iterate 6 (refine wpX_skip2 rfl rfl (by kernel_rfl) ?_)); simp only [List.setIfInBounds_toArray, List.set_cons_succ, List.set_cons_zero]; (iterate 6 (refine wpX_skip2 rfl rfl (by kernel_rfl) ?_)); simp only [List.setIfInBounds_toArray, List.set_cons_succ, List.set_cons_zero]; (iterate 5 (refine wpX_skip2 rfl rfl (by kernel_rfl) ?_)); simp only [List.setIfInBounds_toArray, List.set_cons_succ, List.set_cons_zero]
        iterate 1 (refine wpX_quiet rfl (by kernel_rfl) rfl ?_; go_wp2; refine ⟨rfl, ?_⟩)
        refine wpX_nil ?_; simp only [List.drop_succ_cons, List.drop_zero]
        go_wp2
        go_ret
        exact ⟨ret_eq (by rw [HF.out]; rfl), BW.out.trans ((below_drewL HB.out).mono BW.out.size)⟩
      | true =>
        have HOK := Lib.hid hok; clear hok
        cases j with
        | zero =>
          go_wp2
          refine wp_region_x 25 [0, 1, 2, 3, 4, 5, 6, 7, 8, 9, 10, 11, 12, 13, 14, 15, 16, 17, 18, 19, 20, 21, 22, 23, 24] (by kernel_rfl) (by kernel_rfl) ?_
          iterate 3 (refine wpX_quiet rfl (by kernel_rfl) rfl ?_; go_wp2; refine ⟨rfl, ?_⟩)
          refine wpX_quiet rfl (by kernel_rfl) rfl ?_; go_wp2_with (first | (refine wpList_load_row _ (ad.add (0 * 16)) rfl ci agg_Inst HL.out HC.out ?_) | fail); refine ⟨rfl, ?_⟩
          refine wpX_actor rfl (by kernel_rfl) ?_; go_wp2_with fail
          refine (sInstOk_any x ci _ hwx HRC.out.drew).mono ?_; rintro e v1 ⟨rfl, hb⟩
          rw [HOK.out]
          have HB := Lib.hid hb; clear hb
          go_wp2
          refine ⟨Ext.of_below HB.out, ?_⟩
          iterate 5 (refine wpX_quiet rfl (by kernel_rfl) rfl ?_; go_wp2; refine ⟨rfl, ?_⟩)
          (iterate 6 (refine wpX_skip2 rfl rfl (by kernel_rfl) ?_)); simp only [List.setIfInBounds_toArray, List.set_cons_succ, List.set_cons_zero]; (iterate 6 (refine wpX_skip2 rfl rfl (by kernel_rfl) ?_)); simp only [List.setIfInBounds_toArray, List.set_cons_succ, List.set_cons_zero]; (iterate 1 (refine wpX_skip2 rfl rfl (by kernel_rfl) ?_)); simp only [List.setIfInBounds_toArray, List.set_cons_succ, List.set_cons_zero]
          iterate 2 (refine wpX_quiet rfl (by kernel_rfl) rfl ?_; go_wp2; refine ⟨rfl, ?_⟩)
          refine wpX_nil ?_; simp only [List.drop_succ_cons, List.drop_zero]
          go_wp2
          exact ⟨⟨1, by omega, by go_num, HSU.out HOK.out (fun _ h => absurd rfl h), BW.out.trans ((below_drewL HB.out).mono BW.out.size)⟩, by simp only [intOf]; omega⟩
        | succ m =>
          have hmx : m < xs.length := by omega
          obtain ⟨ad', cp, he, _, _, hrc, hl, hc⟩ := (HR.out.below BW.out).elem InstD.width m hmx HN.out
          injection he with he
          subst he
          have hno2 := HNO2.out m rfl
          have HY := Lib.hid (show xs[m]? = some xs[m] from List.getElem?_eq_getElem hmx)
          generalize xs[m] = y at *
          have HLP := Lib.hid hl; clear hl
          have HCP := Lib.hid hc; clear hc
          have HRP := Lib.hid hrc; clear hrc
          have HNO := Lib.hid hno2; clear hno2
          cases hlt2 : idLt y.id x.id with
          | false =>
            have HF := Lib.hid (HNO.out hlt2)
            have HLT := Lib.hid hlt2; clear hlt2
            go_wp2
            refine wp_region_x 25 [0, 1, 2, 3, 4, 5, 6, 7, 8, 9, 10, 11, 12, 13, 14, 15, 16, 17, 18, 19, 20, 21, 22, 23, 24] (by kernel_rfl) (by kernel_rfl) ?_
            iterate 3 (refine wpX_quiet rfl (by kernel_rfl) rfl ?_; go_wp2; refine ⟨rfl, ?_⟩)
            refine wpX_quiet rfl (by kernel_rfl) rfl ?_; go_wp2_with (first | (refine wpList_load_row _ (ad.add ((m + 1) * 16)) rfl ci agg_Inst HL.out HC.out ?_) | fail); refine ⟨rfl, ?_⟩
            refine wpX_actor rfl (by kernel_rfl) ?_; go_wp2_with fail
            refine (sInstOk_any x ci _ hwx HRC.out.drew).mono ?_; rintro e v1 ⟨rfl, hb⟩
            rw [HOK.out]
            have HB := Lib.hid hb; clear hb
            have HC1 := Lib.hid (id_cells HRC.out (cells_below HC.out (below_drewL HB.out)))
            have HC2 := Lib.hid (id_cells HRP.out (cells_below HCP.out (below_drewL HB.out)))
            go_wp2
            refine ⟨Ext.of_below HB.out, ?_⟩
            iterate 10 (refine wpX_quiet rfl (by kernel_rfl) rfl ?_; go_wp2; refine ⟨rfl, ?_⟩)
            refine wpX_quiet rfl (by kernel_rfl) rfl ?_; go_wp2_with (first | (refine wpList_load_row_g _ rfl (ad.add (m * 16)) rfl [.int .i64 y.id.rep, .int .i64 y.id.slot] agg_Id rfl HC2.out ?_) | fail); refine ⟨rfl, ?_⟩
            iterate 4 (refine wpX_quiet rfl (by kernel_rfl) rfl ?_; go_wp2; refine ⟨rfl, ?_⟩)
            refine wpX_quiet rfl (by kernel_rfl) rfl ?_; go_wp2_with (first | (refine wpList_load_row_g _ rfl (ad.add ((m + 1) * 16)) rfl [.int .i64 x.id.rep, .int .i64 x.id.slot] agg_Id rfl HC1.out ?_) | fail); refine ⟨rfl, ?_⟩
            refine wpX_actor rfl (by kernel_rfl) ?_; go_wp2_with fail
            refine (l8Less_any y.id x.id [.int .i64 y.id.rep, .int .i64 y.id.slot] [.int .i64 x.id.rep, .int .i64 x.id.slot] _ IdD.shut IdD.shut).mono ?_; rintro e v2 ⟨rfl, hb⟩
            rw [HLT.out]
            have HB2 := Lib.hid hb; clear hb
            go_wp2
            refine ⟨Ext.of_below HB2.out, ?_⟩
            iterate 3 (refine wpX_quiet rfl (by kernel_rfl) rfl ?_; go_wp2; refine ⟨rfl, ?_⟩)
            refine wpX_nil ?_; simp only [List.drop_succ_cons, List.drop_zero]
            go_wp2
            go_ret
            exact ⟨ret_eq (by rw [HF.out]; rfl), (BW.out.trans ((below_drewL HB.out).mono BW.out.size)).trans (HB2.out.mono (Nat.le_trans BW.out.size HB.out.size))⟩
          | true =>
            have HLT := Lib.hid hlt2; clear hlt2
            go_wp2
            refine wp_region_x 25 [0, 1, 2, 3, 4, 5, 6, 7, 8, 9, 10, 11, 12, 13, 14, 15, 16, 17, 18, 19, 20, 21, 22, 23, 24] (by kernel_rfl) (by kernel_rfl) ?_
            iterate 3 (refine wpX_quiet rfl (by kernel_rfl) rfl ?_; go_wp2; refine ⟨rfl, ?_⟩)
            refine wpX_quiet rfl (by kernel_rfl) rfl ?_; go_wp2_with (first | (refine wpList_load_row _ (ad.add ((m + 1) * 16)) rfl ci agg_Inst HL.out HC.out ?_) | fail); refine ⟨rfl, ?_⟩
            refine wpX_actor rfl (by kernel_rfl) ?_; go_wp2_with fail
            refine (sInstOk_any x ci _ hwx HRC.out.drew).mono ?_; rintro e v1 ⟨rfl, hb⟩
            rw [HOK.out]
            have HB := Lib.hid hb; clear hb
            have HC1 := Lib.hid (id_cells HRC.out (cells_below HC.out (below_drewL HB.out)))
            have HC2 := Lib.hid (id_cells HRP.out (cells_below HCP.out (below_drewL HB.out)))
            go_wp2
            refine ⟨Ext.of_below HB.out, ?_⟩
            iterate 10 (refine wpX_quiet rfl (by kernel_rfl) rfl ?_; go_wp2; refine ⟨rfl, ?_⟩)
            refine wpX_quiet rfl (by kernel_rfl) rfl ?_; go_wp2_with (first | (refine wpList_load_row_g _ rfl (ad.add (m * 16)) rfl [.int .i64 y.id.rep, .int .i64 y.id.slot] agg_Id rfl HC2.out ?_) | fail); refine ⟨rfl, ?_⟩
            iterate 4 (refine wpX_quiet rfl (by kernel_rfl) rfl ?_; go_wp2; refine ⟨rfl, ?_⟩)
            refine wpX_quiet rfl (by kernel_rfl) rfl ?_; go_wp2_with (first | (refine wpList_load_row_g _ rfl (ad.add ((m + 1) * 16)) rfl [.int .i64 x.id.rep, .int .i64 x.id.slot] agg_Id rfl HC1.out ?_) | fail); refine ⟨rfl, ?_⟩
            refine wpX_actor rfl (by kernel_rfl) ?_; go_wp2_with fail
            refine (l8Less_any y.id x.id [.int .i64 y.id.rep, .int .i64 y.id.slot] [.int .i64 x.id.rep, .int .i64 x.id.slot] _ IdD.shut IdD.shut).mono ?_; rintro e v2 ⟨rfl, hb⟩
            rw [HLT.out]
            have HB2 := Lib.hid hb; clear hb
            go_wp2
            refine ⟨Ext.of_below HB2.out, ?_⟩
            iterate 3 (refine wpX_quiet rfl (by kernel_rfl) rfl ?_; go_wp2; refine ⟨rfl, ?_⟩)
            refine wpX_nil ?_; simp only [List.drop_succ_cons, List.drop_zero]
            go_wp2
            exact ⟨⟨m + 1 + 1, by omega, by go_num, HSU.out HOK.out (fun z _ hz => by rw [Nat.add_sub_cancel, HY.out] at hz; injection hz with hz; subst hz; exact HLT.out), (BW.out.trans ((below_drewL HB.out).mono BW.out.size)).trans (HB2.out.mono (Nat.le_trans BW.out.size HB.out.size))⟩, by simp only [intOf]; omega⟩
    · have hjn : j = n := by omega
      subst hjn
      have HF := Lib.hid (instsOkB_yes (by have := HG.out; rw [HN.out] at this; exact this))
      go_wp2
      go_ret
      exact ⟨ret_eq (by rw [HF.out]; rfl), BW.out⟩
theorem sInstsOk_any (xs : List InstD) (A : Option Addr) (n c : Nat) (w : World) (hn : n = xs.length) (hwt : n + (cat InstD.c xs).wt ≤ 1048576) (h : Rep anyB w (.sl 40 16 n (cat InstD.c xs) .nil) [.slice A n c]) :
    Calls Try.prog 29 #[.slice A n c] w fun e w' => e = .returned (.bool (instsOkB xs)) ∧ Below w.heap.size w w' :=
  sInstsOk_all xs A n c w hn (by omega) (fun y hy => by have := cat_wt_le (f := InstD.c) hy; omega) h


set_option maxRecDepth 100000 in
set_option maxHeartbeats 4000000 in
theorem iInstsOk_all (xs : List InstD) (A : Option Addr) (n c : Nat) (w : World) (hn : n = xs.length) (hnb : n ≤ 2097152) (hwt : ∀ y ∈ xs, (y.c).wt ≤ 1048576) (h : Rep anyB w (.sl 40 16 n (cat InstD.c xs) .nil) [.slice A n c]) :
    Calls Try.prog 36 #[.slice A n c] w fun e w' => e = .returned (.bool (instsOkB xs)) ∧ Below w.heap.size w w' := by
  have HWX := Lib.hid hwt; clear hwt
  have HN := Lib.hid hn; clear hn
  have HR := Lib.hid h; clear h
  go_enter Try.func36, Try.ntmps36
  go_wp2
  go_loopw [7] (fun ii wr => ∃ j : Nat, j ≤ n ∧ ii = .int .i64 (j : Int) ∧ instsGood xs j ∧ Below w.heap.size w wr) (fun ii _ => n - (intOf ii).toNat)
  case atStart => exact ⟨0, Nat.zero_le _, rfl, instsGood_zero _, Below.refl _ _⟩
  case round =>
    obtain ⟨j, hj, rfl, hgood, hbel⟩ := hrel
    have HG := Lib.hid hgood; clear hgood
    have BW := Lib.hid hbel; clear hbel
    by_cases hlt : j < n
    · have hjx : j < xs.length := by have := HN.out; omega
      obtain ⟨ad, ci, rfl, _, _, hrc, hl, hc⟩ := (HR.out.below BW.out).elem InstD.width j hjx HN.out
      have hwx : (xs[j].c).wt ≤ 1048576 := HWX.out _ (List.getElem_mem hjx)
      have hno1 := fun h => instsOkB_no1 hjx h
      have hsucc := fun h1 h2 => instsGood_succ HG.out hjx h1 h2
      have hno2 : ∀ m, (hm : j = m + 1) → idLt (xs[m]'(by omega)).id xs[j].id = false → instsOkB xs = false := fun m hm h => by subst hm; exact instsOkB_no2 hjx h
      have HNO1 := Lib.hid hno1; clear hno1
      have HSU := Lib.hid hsucc; clear hsucc
      have HNO2 := Lib.hid hno2; clear hno2
      generalize xs[j] = x at *
      have HL := Lib.hid hl; clear hl
      have HC := Lib.hid hc; clear hc
      have HRC := Lib.hid hrc; clear hrc
      go_wp2_with (first | ((with_reducible show wpList _ _ _ ({ dst := _, op := Op.load 40 _, type := _, pos := _, after := _, guard := _ } :: _) _ _); refine wpList_load_row _ (ad.add (j * 16)) rfl ci agg_Inst HL.out HC.out ?_) | ((with_reducible show wpList _ _ _ ({ dst := _, op := Op.store 40 _ _, type := _, pos := _, after := _, guard := _ } :: _) _ _); refine wpList_store_row _ (World.heap wr).size 40 0 ci [] [.int .i64 0, .int .i64 0, .int .i64 0, .int .i64 0, .int .i64 0, .int .i64 0, .int .i64 0, .int .i64 0, .string ⟨#[]⟩, .string ⟨#[]⟩, .string ⟨#[]⟩, .int .i64 0, .slice none 0 0, .int .i64 0, .slice none 0 0, .bool false] [] _ rfl rfl (HL.out ▸ agg_Inst) (blk_new wr _ _) rfl rfl HL.out.symm HRC.out.one ?_; intro v0 hsb hsg) | fail)
      have hb : Below (World.heap wr).size wr v0 := Below.grown (Below.alloc (Below.refl _ _) (Nat.le_refl _) _) hsg (by simp) (fun k hk => by injection hk with hk; omega)
      have hsb2 : Blk v0 (World.heap wr).size 40 ci.toArray := by simpa using hsb
      have XB := Lib.hid hsb2; clear hsb hsb2 hsg
      have B0 := Lib.hid (BW.out.trans (hb.mono BW.out.size))
      have HRC0 := Lib.hid (HRC.out.below hb)
      have HB0 := Lib.hid hb; clear hb
      cases hok : instOkB x with
      | false =>
        have HF := Lib.hid (HNO1.out hok)
        have HOK := Lib.hid hok; clear hok
        refine wp_region_x 19 [0, 1, 2, 3, 4, 5, 6, 7, 8, 9, 10, 11, 12, 13, 14, 15, 16, 17, 18] (by kernel_rfl) (by kernel_rfl) ?_
        refine wpX_quiet rfl (by kernel_rfl) rfl ?_; go_wp2_with (first | (refine wpList_load_row _ ⟨wr.heap.size, 0, none⟩ rfl ci agg_Inst HL.out (blk_cells XB.out.drew) ?_) | fail); refine ⟨rfl, ?_⟩
        refine wpX_actor rfl (by kernel_rfl) ?_; go_wp2_with fail
        refine (iInstOk_any x ci _ hwx HRC0.out.drew).mono ?_; rintro e v1 ⟨rfl, hb⟩
        rw [HOK.out]
        have HB := Lib.hid hb; clear hb
        go_wp2
        refine ⟨Ext.of_below HB.out, ?_⟩
        iterate 2 (refine wpX_quiet rfl (by kernel_rfl) rfl ?_; go_wp2; refine ⟨rfl, ?_⟩)
        (iterate 6 (refine wpX_skip2 rfl rfl (by kernel_rfl) ?_)); simp only [List.setIfInBounds_toArray, List.set_cons_succ, List.set_cons_zero]; (iterate 6 (refine wpX_skip2 rfl rfl (by kernel_rfl) ?_)); simp only [List.setIfInBounds_toArray, List.set_cons_succ, List.set_cons_zero]; (iterate 2 (refine wpX_skip2 rfl rfl (by kernel_rfl) ?_)); simp only [List.setIfInBounds_toArray, List.set_cons_succ, List.set_cons_zero]
        iterate 1 (refine wpX_quiet rfl (by kernel_rfl) rfl ?_; go_wp2; refine ⟨rfl, ?_⟩)
        refine wpX_nil ?_; simp only [List.drop_succ_cons, List.drop_zero]
        go_wp2
        go_ret
        exact ⟨ret_eq (by rw [HF.out]; rfl), B0.out.trans ((below_drewL HB.out).mono B0.out.size)⟩
      | true =>
        have HOK := Lib.hid hok; clear hok
        cases j with
        | zero =>
          refine wp_region_x 19 [0, 1, 2, 3, 4, 5, 6, 7, 8, 9, 10, 11, 12, 13, 14, 15, 16, 17, 18] (by kernel_rfl) (by kernel_rfl) ?_
          refine wpX_quiet rfl (by kernel_rfl) rfl ?_; go_wp2_with (first | (refine wpList_load_row _ ⟨wr.heap.size, 0, none⟩ rfl ci agg_Inst HL.out (blk_cells XB.out.drew) ?_) | fail); refine ⟨rfl, ?_⟩
          refine wpX_actor rfl (by kernel_rfl) ?_; go_wp2_with fail
          refine (iInstOk_any x ci _ hwx HRC0.out.drew).mono ?_; rintro e v1 ⟨rfl, hb⟩
          rw [HOK.out]
          have HB := Lib.hid hb; clear hb
          go_wp2
          refine ⟨Ext.of_below HB.out, ?_⟩
          iterate 5 (refine wpX_quiet rfl (by kernel_rfl) rfl ?_; go_wp2; refine ⟨rfl, ?_⟩)
          (iterate 6 (refine wpX_skip2 rfl rfl (by kernel_rfl) ?_)); simp only [List.setIfInBounds_toArray, List.set_cons_succ, List.set_cons_zero]; (iterate 4 (refine wpX_skip2 rfl rfl (by kernel_rfl) ?_)); simp only [List.setIfInBounds_toArray, List.set_cons_succ, List.set_cons_zero]
          iterate 2 (refine wpX_quiet rfl (by kernel_rfl) rfl ?_; go_wp2; refine ⟨rfl, ?_⟩)
          refine wpX_nil ?_; simp only [List.drop_succ_cons, List.drop_zero]
          go_wp2
          exact ⟨⟨1, by omega, by go_num, HSU.out HOK.out (fun _ h => absurd rfl h), B0.out.trans ((below_drewL HB.out).mono B0.out.size)⟩, by simp only [intOf]; omega⟩
        | succ m =>
          have hmx : m < xs.length := by omega
          obtain ⟨ad', cp, he, _, _, hrc, hl, hc⟩ := (HR.out.below BW.out).elem InstD.width m hmx HN.out
          injection he with he
          subst he
          have hno2 := HNO2.out m rfl
          have HY := Lib.hid (show xs[m]? = some xs[m] from List.getElem?_eq_getElem hmx)
          generalize xs[m] = y at *
          have HLP := Lib.hid hl; clear hl
          have HCP := Lib.hid (cells_below hc HB0.out); clear hc
          have HRP := Lib.hid (hrc.below HB0.out); clear hrc
          have HNO := Lib.hid hno2; clear hno2
          cases hlt2 : idLt y.id x.id with
          | false =>
            have HF := Lib.hid (HNO.out hlt2)
            have hq := idCmp_no hlt2
            clear hlt2
            refine wp_region_x 19 [0, 1, 2, 3, 4, 5, 6, 7, 8, 9, 10, 11, 12, 13, 14, 15, 16, 17, 18] (by kernel_rfl) (by kernel_rfl) ?_
            refine wpX_quiet rfl (by kernel_rfl) rfl ?_; go_wp2_with (first | (refine wpList_load_row _ ⟨wr.heap.size, 0, none⟩ rfl ci agg_Inst HL.out (blk_cells XB.out.drew) ?_) | fail); refine ⟨rfl, ?_⟩
            refine wpX_actor rfl (by kernel_rfl) ?_; go_wp2_with fail
            refine (iInstOk_any x ci _ hwx HRC0.out.drew).mono ?_; rintro e v1 ⟨rfl, hb⟩
            rw [HOK.out]
            have HB := Lib.hid hb; clear hb
            have HC2 := Lib.hid (id_cells HRP.out (cells_below HCP.out (below_drewL HB.out)))
            have XB1 := Lib.hid (XB.out.below (below_drewL HB.out))
            go_wp2
            refine ⟨Ext.of_below HB.out, ?_⟩
            iterate 10 (refine wpX_quiet rfl (by kernel_rfl) rfl ?_; go_wp2; refine ⟨rfl, ?_⟩)
            refine wpX_quiet rfl (by kernel_rfl) rfl ?_; go_wp2_with (first | (refine wpList_load_row_g _ rfl (ad.add (m * 16)) rfl [.int .i64 y.id.rep, .int .i64 y.id.slot] agg_Id rfl HC2.out ?_) | fail); refine ⟨rfl, ?_⟩
            iterate 1 (refine wpX_quiet rfl (by kernel_rfl) rfl ?_; go_wp2; refine ⟨rfl, ?_⟩)
            refine wpX_quiet rfl (by kernel_rfl) rfl ?_; go_wp2_with (first | (refine wpList_load_row_g _ rfl ⟨wr.heap.size, 0, none⟩ rfl [.int .i64 x.id.rep, .int .i64 x.id.slot] agg_Id rfl (id_cells HRC0.out (blk_cells XB1.out)) ?_) | fail); refine ⟨rfl, ?_⟩
            refine wpX_actor rfl (by kernel_rfl) ?_; go_wp2_with fail
            refine (compareIds_any y.id x.id [.int .i64 y.id.rep, .int .i64 y.id.slot] [.int .i64 x.id.rep, .int .i64 x.id.slot] _ IdD.shut IdD.shut).mono ?_; rintro e v2 ⟨rfl, hb⟩
            have HB2 := Lib.hid hb; clear hb
            generalize idCmp y.id x.id = q at *
            go_wp2
            refine ⟨Ext.of_below HB2.out, ?_⟩
            iterate 3 (refine wpX_quiet rfl (by kernel_rfl) rfl ?_; go_wp2; refine ⟨rfl, ?_⟩)
            refine wpX_nil ?_; simp only [List.drop_succ_cons, List.drop_zero]
            go_wp2
            go_ret
            exact ⟨ret_eq (by rw [HF.out]; rfl), (B0.out.trans ((below_drewL HB.out).mono B0.out.size)).trans (HB2.out.mono (Nat.le_trans B0.out.size HB.out.size))⟩
          | true =>
            have HLT := Lib.hid hlt2
            have HQ := Lib.hid (idCmp_yes hlt2); clear hlt2
            refine wp_region_x 19 [0, 1, 2, 3, 4, 5, 6, 7, 8, 9, 10, 11, 12, 13, 14, 15, 16, 17, 18] (by kernel_rfl) (by kernel_rfl) ?_
            refine wpX_quiet rfl (by kernel_rfl) rfl ?_; go_wp2_with (first | (refine wpList_load_row _ ⟨wr.heap.size, 0, none⟩ rfl ci agg_Inst HL.out (blk_cells XB.out.drew) ?_) | fail); refine ⟨rfl, ?_⟩
            refine wpX_actor rfl (by kernel_rfl) ?_; go_wp2_with fail
            refine (iInstOk_any x ci _ hwx HRC0.out.drew).mono ?_; rintro e v1 ⟨rfl, hb⟩
            rw [HOK.out]
            have HB := Lib.hid hb; clear hb
            have HC2 := Lib.hid (id_cells HRP.out (cells_below HCP.out (below_drewL HB.out)))
            have XB1 := Lib.hid (XB.out.below (below_drewL HB.out))
            go_wp2
            refine ⟨Ext.of_below HB.out, ?_⟩
            iterate 10 (refine wpX_quiet rfl (by kernel_rfl) rfl ?_; go_wp2; refine ⟨rfl, ?_⟩)
            refine wpX_quiet rfl (by kernel_rfl) rfl ?_; go_wp2_with (first | (refine wpList_load_row_g _ rfl (ad.add (m * 16)) rfl [.int .i64 y.id.rep, .int .i64 y.id.slot] agg_Id rfl HC2.out ?_) | fail); refine ⟨rfl, ?_⟩
            iterate 1 (refine wpX_quiet rfl (by kernel_rfl) rfl ?_; go_wp2; refine ⟨rfl, ?_⟩)
            refine wpX_quiet rfl (by kernel_rfl) rfl ?_; go_wp2_with (first | (refine wpList_load_row_g _ rfl ⟨wr.heap.size, 0, none⟩ rfl [.int .i64 x.id.rep, .int .i64 x.id.slot] agg_Id rfl (id_cells HRC0.out (blk_cells XB1.out)) ?_) | fail); refine ⟨rfl, ?_⟩
            refine wpX_actor rfl (by kernel_rfl) ?_; go_wp2_with fail
            refine (compareIds_any y.id x.id [.int .i64 y.id.rep, .int .i64 y.id.slot] [.int .i64 x.id.rep, .int .i64 x.id.slot] _ IdD.shut IdD.shut).mono ?_; rintro e v2 ⟨rfl, hb⟩
            rw [HQ.out]
            have HB2 := Lib.hid hb; clear hb
            go_wp2
            refine ⟨Ext.of_below HB2.out, ?_⟩
            iterate 3 (refine wpX_quiet rfl (by kernel_rfl) rfl ?_; go_wp2; refine ⟨rfl, ?_⟩)
            refine wpX_nil ?_; simp only [List.drop_succ_cons, List.drop_zero]
            go_wp2
            exact ⟨⟨m + 1 + 1, by omega, by go_num, HSU.out HOK.out (fun z _ hz => by rw [Nat.add_sub_cancel, HY.out] at hz; injection hz with hz; subst hz; exact HLT.out), (B0.out.trans ((below_drewL HB.out).mono B0.out.size)).trans (HB2.out.mono (Nat.le_trans B0.out.size HB.out.size))⟩, by simp only [intOf]; omega⟩
    · have hjn : j = n := by omega
      subst hjn
      have HF := Lib.hid (instsOkB_yes (by have := HG.out; rw [HN.out] at this; exact this))
      go_wp2
      go_ret
      exact ⟨ret_eq (by rw [HF.out]; rfl), BW.out⟩
theorem iInstsOk_any (xs : List InstD) (A : Option Addr) (n c : Nat) (w : World) (hn : n = xs.length) (hwt : n + (cat InstD.c xs).wt ≤ 1048576) (h : Rep anyB w (.sl 40 16 n (cat InstD.c xs) .nil) [.slice A n c]) :
    Calls Try.prog 36 #[.slice A n c] w fun e w' => e = .returned (.bool (instsOkB xs)) ∧ Below w.heap.size w w' :=
  iInstsOk_all xs A n c w hn (by omega) (fun y hy => by have := cat_wt_le (f := InstD.c) hy; omega) h

attribute [irreducible] instsOkB
end Go.Proofs.Ytoffelfcmfpooaa
