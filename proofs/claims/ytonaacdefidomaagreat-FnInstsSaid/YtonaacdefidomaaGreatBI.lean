/-
  An instance put into a row, told by its pieces: spec.l8Put. Conditions: a bound on the sizes.
  An instance put into a row: what is owned. No condition.
  What the law on instances asks: plain facts. No condition.
-/
import Derived.Test.YtonaacdefidomaaGreatBH
import Derived.Test.YtonaacdefidomaaGreatBC
import Derived.Test.YtonaacdefidomaaGreatBG
set_option linter.unusedVariables false
set_option linter.unusedSimpArgs false
namespace Go.Proofs.YtonaacdefidomaaGreat
open Go.RowKit
def putQ (x : InstD) (cs : List Value) : List (InstD × List Value) → Bool → List (InstD × List Value)
  | [], put => if put then [] else [(x, cs)]
  | (y, ci) :: r, put => (if put || idLt y.id x.id then [] else [(x, cs)]) ++ ((if y.id = x.id then [] else [(y, ci)]) ++ putQ x cs r (put || !idLt y.id x.id))
theorem putQ_fst {x : InstD} {cs : List Value} : ∀ (ps : List (InstD × List Value)) (b : Bool), (putQ x cs ps b).map Prod.fst = putA x (ps.map Prod.fst) b
  | [], b => by cases b <;> rfl
  | (y, ci) :: r, b => by
    rw [putQ, List.map_cons, putA, List.map_append, List.map_append, putQ_fst r]
    congr 1
    · split <;> rfl
    · congr 1
      split <;> rfl
theorem own_lower {w : World} {base e sz n : Nat} {v : Value} {xs : List Value} (h : w.ownsRow (base + 1) e sz v n xs) : w.ownsRow base e sz v n xs := ownsRow_keep h (fun b hb => ⟨by have := (h.lt b hb).1; omega, rfl⟩)
theorem flat_get : ∀ (ps : List (InstD × List Value)) (_ : ∀ p ∈ ps, p.2.length = 16) (j : Nat) (hj : j < ps.length) (f : Nat) (u : Value), (ps[j].2)[f]? = some u → ((ps.map Prod.snd).flatten)[j * 16 + f]? = some u
  | p :: ps, h, 0, _, f, u, hu => by
    have hu2 : p.2[f]? = some u := hu
    rw [List.map_cons, List.flatten_cons, Nat.zero_mul, Nat.zero_add, List.getElem?_append_left (List.getElem?_eq_some_iff.1 hu2).1]
    exact hu2
  | p :: ps, h, j + 1, hj, f, u, hu => by
    have h1 := h p (by simp)
    rw [List.map_cons, List.flatten_cons, List.getElem?_append_right (by omega), h1, show (j + 1) * 16 + f - 16 = j * 16 + f by omega]
    exact flat_get ps (fun q hq => h q (by simp [hq])) j (by simpa using hj) f u hu
theorem piece_elem {w : World} {base e n c : Nat} {A : Option Addr} {ps : List (InstD × List Value)} (h : w.ownsRow base e 16 (.slice A n c) n ((ps.map Prod.snd).flatten)) (h16 : ∀ p ∈ ps, p.2.length = 16) (j : Nat) (hj : j < ps.length) :
    ∃ ad, A = some ad ∧ ad.block < w.heap.size ∧ ∀ f u, (ps[j].2)[f]? = some u → w.cell? ((ad.add (j * 16)).add f) = some u := by
  rcases h.2 with ⟨h0, h1⟩ | ⟨g, cap, cur, hv, hb, hh, _⟩
  · have h2 := h.1
    have h3 := flat_get ps h16 j hj 0 _ (List.getElem?_eq_getElem (by rw [h16 _ (List.getElem_mem hj)]; omega))
    have h4 := (List.getElem?_eq_some_iff.1 h3).1
    omega
  · injection hv with e1 _ e3
    subst e1
    refine ⟨⟨g, 0, none⟩, rfl, (Array.getElem?_eq_some_iff.1 hh).1, fun f u hu => ?_⟩
    have h5 := World.ownsRow.cells (g := g) h rfl (j * 16 + f) u (flat_get ps h16 j hj f u hu)
    rw [add_plain, Nat.zero_add] at h5
    rw [add_plain, add_plain, Nat.zero_add]
    exact h5


set_option maxRecDepth 100000 in
set_option maxHeartbeats 8000000 in
theorem l8PutQ_any (ps : List (InstD × List Value)) (x : InstD) (A : Option Addr) (base n c : Nat) (cs : List Value) (w : World) (hn : n = ps.length) (hn1 : n ≤ 1048576) (hp16 : ∀ p ∈ ps, p.2.length = 16) (hpr : ∀ p ∈ ps, Rep anyB w p.1.c p.2) (h : w.ownsRow base 38 16 (.slice A n c) n ((ps.map Prod.snd).flatten)) (h' : Rep anyB w x.c cs) :
    Calls Tryz.prog 47 #[.slice A n c, .agg cs.toArray] w fun e w' => ∃ A2 m c2, e = .returned (.slice A2 m c2) ∧ m = (putQ x cs ps false).length ∧ w'.ownsRow w.heap.size 38 16 (.slice A2 m c2) m (((putQ x cs ps false).map Prod.snd).flatten) ∧ Below w.heap.size w w' := by
  have HP16 := Lib.hid hp16; clear hp16
  have HPR := Lib.hid hpr; clear hpr
  have HL := Lib.hid (show cs.length = 16 from h'.length.trans (InstD.width x))
  have HX1 := Lib.hid h'.one
  have HXR := Lib.hid h'.lt
  have hxid := fun (v : World) (hb : Blk v w.heap.size 38 cs.toArray) => id_cells h' (blk_cells hb)
  have HXI := Lib.hid hxid; clear hxid h'
  have HR := Lib.hid h; clear h
  have HN := Lib.hid hn; clear hn
  obtain ⟨R, hR⟩ : ∃ R, R = putQ x cs ps false := ⟨_, rfl⟩
  rw [← hR]
  have HRR := Lib.hid hR; clear hR
  obtain ⟨xr, xs', hxe⟩ : ∃ xr xs', x.id = ⟨xr, xs'⟩ := ⟨x.id.rep, x.id.slot, rfl⟩
  rw [hxe] at HXI
  have HXE := Lib.hid hxe; clear hxe
  go_enter Tryz.func47, Tryz.ntmps47
  go_wp2
  go_loopw [5, 6, 7] (fun oo pp ii wr => ∃ (j q : Nat) (p : Bool) (A' : Option Addr) (c' : Nat) (cells : List Value) (acc : List (InstD × List Value)), j ≤ n ∧ oo = .slice A' q c' ∧ pp = .bool p ∧ ii = .int .i64 (j : Int) ∧ q = acc.length ∧ q ≤ 2 * j ∧ acc ++ putQ x cs (ps.drop j) p = R ∧ wr.ownsRow (w.heap.size + 1) 38 16 (.slice A' q c') q cells ∧ cells = (acc.map Prod.snd).flatten ∧ Blk wr w.heap.size 38 cs.toArray ∧ Below w.heap.size w wr) (fun _ _ ii _ => n - (intOf ii).toNat)
  case atStart => exact ⟨0, 0, false, some ⟨w.heap.size + 1, 0, none⟩, 0, [], [], Nat.zero_le _, by simp, rfl, rfl, rfl, by omega, by rw [HRR.out]; rfl, by have h1 := World.ownsRow_made (base := w.heap.size + 1) (size := 16) (e := 38) (w.alloc (.cells cs.toArray 38)) #[] 0 (by simp) (by simp [maxLen]) rfl; simpa using h1, rfl, (blk_new _ _ _).alloc _, (by repeat' (first | with_reducible exact Below.refl _ _ | with_reducible exact BW.out | with_reducible refine Below.setCell ?_ ?_ _ | with_reducible refine Below.alloc ?_ ?_ _ | with_reducible refine Below.drew ?_ | (simp; done) | (simp; omega) | omega))⟩
  case round =>
    obtain ⟨j, q, p, A', c', cells, acc, hj, rfl, rfl, rfl, hq, hqb, hT, hown, hrep, hbx, hbel⟩ := hrel
    have HQ := Lib.hid hq; clear hq
    have HO := Lib.hid hown; clear hown
    have HA := Lib.hid hrep; clear hrep
    have HBX := Lib.hid hbx; clear hbx
    have BW := Lib.hid hbel; clear hbel
    have HZ := Lib.hid (show w.heap.size + 1 ≤ wr.heap.size from HBX.out.lt)
    by_cases hlt : j < n
    · have hjx : j < ps.length := by have := HN.out; omega
      obtain ⟨ad, rfl, hadl, hc⟩ := piece_elem HR.out HP16.out j hjx
      have hl := HP16.out _ (List.getElem_mem hjx)
      have hrc := HPR.out _ (List.getElem_mem hjx)
      have hdy : ps.drop j = ps[j] :: ps.drop (j + 1) := List.drop_eq_getElem_cons hjx
      obtain ⟨y, ci, hy⟩ : ∃ y ci, ps[j] = (y, ci) := ⟨_, _, rfl⟩
      rw [hy] at hl hrc hc hdy
      rw [hdy, putQ] at hT
      simp only [] at hl hrc hc
      clear hdy
      have H1C := Lib.hid hrc.one
      have hcall := fun (v : World) (hb : Below w.heap.size w v) f u (hv : ci[f]? = some u) => show v.cell? ((ad.add (j * 16)).add f) = some u from (hb.cell (by rw [block_of_add, block_of_add]; exact hadl)).trans (hc f u hv)
      have hyid := fun (v : World) (hb : Below w.heap.size w v) => id_cells hrc (hcall v hb)
      obtain ⟨yr, ys, hye⟩ : ∃ yr ys, y.id = ⟨yr, ys⟩ := ⟨y.id.rep, y.id.slot, rfl⟩
      rw [hye, HXE.out] at hT
      rw [hye] at hyid
      have HCL := Lib.hid hl; clear hl
      have HC := Lib.hid hcall; clear hcall hc
      have HYI := Lib.hid hyid; clear hyid
      clear hrc hye
      have HT := Lib.hid hT; clear hT
      cases p with
      | true =>
        have X := Lib.hid HT.out; clear HT
        have HT := Lib.hid (show acc ++ ([] ++ ((if (⟨yr, ys⟩ : IdD) = ⟨xr, xs'⟩ then [] else [(y, ci)]) ++ putQ x cs (ps.drop (j + 1)) true)) = R from X.out); clear X
        go_wp2
        refine wp_region_x 13 [0, 1, 2, 3, 4, 5, 6, 7, 8, 9, 10, 11, 12] (by kernel_rfl) (by kernel_rfl) ?_
        have X := Lib.hid HBX.out.drew; clear HBX
        have HBX := Lib.hid X.out; clear X
        have X := Lib.hid BW.out.drew; clear BW
        have BW := Lib.hid X.out; clear X
        iterate 3 (refine wpX_quiet rfl (by kernel_rfl) rfl ?_; go_wp2; refine ⟨rfl, ?_⟩)
        (iterate 6 (refine wpX_skip2 rfl rfl (by kernel_rfl) ?_)); simp only [List.setIfInBounds_toArray, List.set_cons_succ, List.set_cons_zero]; (iterate 3 (refine wpX_skip2 rfl rfl (by kernel_rfl) ?_)); simp only [List.setIfInBounds_toArray, List.set_cons_succ, List.set_cons_zero]
        iterate 1 (refine wpX_quiet rfl (by kernel_rfl) rfl ?_; go_wp2; refine ⟨rfl, ?_⟩)
        refine wpX_nil ?_; try simp only [List.drop_succ_cons, List.drop_zero]
        have X := Lib.hid (show World.ownsRow wr.drew (w.heap.size + 1) 38 16 (.slice A' q c') q cells from HO.out); clear HO
        have HO := Lib.hid X.out; clear X
        by_cases e1 : yr = xr
        · subst e1
          by_cases e2 : ys = xs'
          · subst e2
            have hT2 := HT.out
            rw [if_pos rfl] at hT2
            have HT2 := Lib.hid hT2; clear hT2
            go_wp2
            refine wp_region_x 7 [0, 1, 2, 3, 4, 5, 6] (by kernel_rfl) (by kernel_rfl) ?_
            have X := Lib.hid HBX.out.drew; clear HBX
            have HBX := Lib.hid X.out; clear X
            have X := Lib.hid BW.out.drew; clear BW
            have BW := Lib.hid X.out; clear X
            iterate 4 (refine wpX_quiet rfl (by kernel_rfl) rfl ?_; go_wp2; refine ⟨rfl, ?_⟩)
            refine wpX_quiet rfl (by kernel_rfl) rfl ?_; go_wp2_with (first | (refine wpList_load_row_g _ (by first | rfl | kernel_rfl) (ad.add (j * 16)) rfl [.int .i64 _, .int .i64 _] agg_Id rfl (HYI.out _ BW.out) ?_) | fail); refine ⟨rfl, ?_⟩
            iterate 1 (refine wpX_quiet rfl (by kernel_rfl) rfl ?_; go_wp2; refine ⟨rfl, ?_⟩)
            refine wpX_quiet rfl (by kernel_rfl) rfl ?_; go_wp2_with (first | (refine wpList_load_row_g _ (by first | rfl | kernel_rfl) ⟨w.heap.size, 0, none⟩ rfl [.int .i64 _, .int .i64 _] agg_Id rfl (HXI.out _ HBX.out) ?_) | fail); refine ⟨rfl, ?_⟩
            refine wpX_nil ?_; try simp only [List.drop_succ_cons, List.drop_zero]
            go_wp2
            exact ⟨⟨j + 1, _, true, A', c', _, _, by omega, rfl, rfl, by go_num, HQ.out, by omega, by have h0 := HT2.out; simpa [List.append_assoc] using h0, HO.out, HA.out, HBX.out, BW.out⟩, by simp only [intOf]; omega⟩
          · have e3 : (ys == xs') = false := by simpa using e2
            have hne : ¬ (⟨yr, ys⟩ : IdD) = ⟨yr, xs'⟩ := fun h => e2 (by injection h)
            have HNE := Lib.hid hne; clear hne e2
            have hT2 := HT.out
            rw [if_neg HNE.out] at hT2
            have HT2 := Lib.hid hT2; clear hT2
            go_wp2
            refine wp_region_x 7 [0, 1, 2, 3, 4, 5, 6] (by kernel_rfl) (by kernel_rfl) ?_
            have X := Lib.hid HBX.out.drew; clear HBX
            have HBX := Lib.hid X.out; clear X
            have X := Lib.hid BW.out.drew; clear BW
            have BW := Lib.hid X.out; clear X
            iterate 4 (refine wpX_quiet rfl (by kernel_rfl) rfl ?_; go_wp2; refine ⟨rfl, ?_⟩)
            refine wpX_quiet rfl (by kernel_rfl) rfl ?_; go_wp2_with (first | (refine wpList_load_row_g _ (by first | rfl | kernel_rfl) (ad.add (j * 16)) rfl [.int .i64 _, .int .i64 _] agg_Id rfl (HYI.out _ BW.out) ?_) | fail); refine ⟨rfl, ?_⟩
            iterate 1 (refine wpX_quiet rfl (by kernel_rfl) rfl ?_; go_wp2; refine ⟨rfl, ?_⟩)
            refine wpX_quiet rfl (by kernel_rfl) rfl ?_; go_wp2_with (first | (refine wpList_load_row_g _ (by first | rfl | kernel_rfl) ⟨w.heap.size, 0, none⟩ rfl [.int .i64 _, .int .i64 _] agg_Id rfl (HXI.out _ HBX.out) ?_) | fail); refine ⟨rfl, ?_⟩
            refine wpX_nil ?_; try simp only [List.drop_succ_cons, List.drop_zero]
            go_wp2_with (first
              | ((with_reducible show wpList _ _ _ ({ dst := _, op := Op.load 38 _, type := _, pos := _, after := _, guard := _ } :: _) _ _); refine wpList_load_row _ (ad.add (j * 16)) rfl ci agg_Inst HCL.out (HC.out _ BW.out) ?_)
              | ((with_reducible show wpList _ _ _ ({ dst := _, op := Op.buildSlice _ _ _, type := _, pos := _, after := _, guard := _ } :: _) _ _); go_must (refine wpList_build1 rfl (.tmp 44) rfl ci HCL.out rfl ?_))
              | (at_builtin; go_must (refine wpList_app E_Inst _ rfl (.tmp 40) (.tmp 45) rfl (w.heap.size + 1) _ q cells rfl (HO.out.alloc _) _ _ _ _ rfl (Reads.new (e := 38) (by simp [HCL.out])) H1C.out (by omega) (by have h1 := HZ.out; simp; omega) ?_; intro vy w5 hown5 hg5 hat5; have hgb := HO.out.lt; obtain ⟨Avy, kvy, rfl, _⟩ := SlR.of_own hown5; have X := Lib.hid (show Blk w5 w.heap.size 38 cs.toArray from (HBX.out.alloc _).keep (hg5.block _ (HBX.out.alloc _).lt (fun e => by have h7 := (hgb _ e.symm).1; omega))); clear HBX; have HBX := Lib.hid X.out; clear X; have X := Lib.hid (show Below w.heap.size w w5 from Below.grown (BW.out.alloc BW.out.size _) hg5 (Nat.le_trans BW.out.size (by simp)) (fun k' hk => by have h7 := (hgb _ hk).1; omega)); clear BW; have BW := Lib.hid X.out; clear X; have X := Lib.hid (show w.heap.size + 1 ≤ w5.heap.size from HBX.out.lt); clear HZ; have HZ := Lib.hid X.out; clear X; have X := Lib.hid (show cells ++ ci = ((acc ++ [(y, ci)]).map Prod.snd).flatten from by rw [HA.out]; simp); clear HA; have HA := Lib.hid X.out; clear X; clear HO; have HO := Lib.hid hown5; clear hown5 hg5 hat5 hgb))
              | fail)
            exact ⟨⟨j + 1, _, true, Avy, kvy, _, _, by omega, rfl, rfl, by go_num, by have h0 := HQ.out; simp; omega, by omega, by have h0 := HT2.out; simpa [List.append_assoc] using h0, HO.out, HA.out, HBX.out, BW.out⟩, by simp only [intOf]; omega⟩
        · have e3 : (yr == xr) = false := by simpa using e1
          have hne : ¬ (⟨yr, ys⟩ : IdD) = ⟨xr, xs'⟩ := fun h => e1 (by injection h)
          have HNE := Lib.hid hne; clear hne e1
          have hT2 := HT.out
          rw [if_neg HNE.out] at hT2
          have HT2 := Lib.hid hT2; clear hT2
          go_wp2
          refine wp_region_x 7 [0, 1, 2, 3, 4, 5, 6] (by kernel_rfl) (by kernel_rfl) ?_
          have X := Lib.hid HBX.out.drew; clear HBX
          have HBX := Lib.hid X.out; clear X
          have X := Lib.hid BW.out.drew; clear BW
          have BW := Lib.hid X.out; clear X
          iterate 4 (refine wpX_quiet rfl (by kernel_rfl) rfl ?_; go_wp2; refine ⟨rfl, ?_⟩)
          refine wpX_quiet rfl (by kernel_rfl) rfl ?_; go_wp2_with (first | (refine wpList_load_row_g _ (by first | rfl | kernel_rfl) (ad.add (j * 16)) rfl [.int .i64 _, .int .i64 _] agg_Id rfl (HYI.out _ BW.out) ?_) | fail); refine ⟨rfl, ?_⟩
          iterate 1 (refine wpX_quiet rfl (by kernel_rfl) rfl ?_; go_wp2; refine ⟨rfl, ?_⟩)
          refine wpX_quiet rfl (by kernel_rfl) rfl ?_; go_wp2_with (first | (refine wpList_load_row_g _ (by first | rfl | kernel_rfl) ⟨w.heap.size, 0, none⟩ rfl [.int .i64 _, .int .i64 _] agg_Id rfl (HXI.out _ HBX.out) ?_) | fail); refine ⟨rfl, ?_⟩
          refine wpX_nil ?_; try simp only [List.drop_succ_cons, List.drop_zero]
          go_wp2_with (first
            | ((with_reducible show wpList _ _ _ ({ dst := _, op := Op.load 38 _, type := _, pos := _, after := _, guard := _ } :: _) _ _); refine wpList_load_row _ (ad.add (j * 16)) rfl ci agg_Inst HCL.out (HC.out _ BW.out) ?_)
            | ((with_reducible show wpList _ _ _ ({ dst := _, op := Op.buildSlice _ _ _, type := _, pos := _, after := _, guard := _ } :: _) _ _); go_must (refine wpList_build1 rfl (.tmp 44) rfl ci HCL.out rfl ?_))
            | (at_builtin; go_must (refine wpList_app E_Inst _ rfl (.tmp 40) (.tmp 45) rfl (w.heap.size + 1) _ q cells rfl (HO.out.alloc _) _ _ _ _ rfl (Reads.new (e := 38) (by simp [HCL.out])) H1C.out (by omega) (by have h1 := HZ.out; simp; omega) ?_; intro vy w5 hown5 hg5 hat5; have hgb := HO.out.lt; obtain ⟨Avy, kvy, rfl, _⟩ := SlR.of_own hown5; have X := Lib.hid (show Blk w5 w.heap.size 38 cs.toArray from (HBX.out.alloc _).keep (hg5.block _ (HBX.out.alloc _).lt (fun e => by have h7 := (hgb _ e.symm).1; omega))); clear HBX; have HBX := Lib.hid X.out; clear X; have X := Lib.hid (show Below w.heap.size w w5 from Below.grown (BW.out.alloc BW.out.size _) hg5 (Nat.le_trans BW.out.size (by simp)) (fun k' hk => by have h7 := (hgb _ hk).1; omega)); clear BW; have BW := Lib.hid X.out; clear X; have X := Lib.hid (show w.heap.size + 1 ≤ w5.heap.size from HBX.out.lt); clear HZ; have HZ := Lib.hid X.out; clear X; have X := Lib.hid (show cells ++ ci = ((acc ++ [(y, ci)]).map Prod.snd).flatten from by rw [HA.out]; simp); clear HA; have HA := Lib.hid X.out; clear X; clear HO; have HO := Lib.hid hown5; clear hown5 hg5 hat5 hgb))
            | fail)
          exact ⟨⟨j + 1, _, true, Avy, kvy, _, _, by omega, rfl, rfl, by go_num, by have h0 := HQ.out; simp; omega, by omega, by have h0 := HT2.out; simpa [List.append_assoc] using h0, HO.out, HA.out, HBX.out, BW.out⟩, by simp only [intOf]; omega⟩
      | false =>
        cases hlt2 : idLt ⟨yr, ys⟩ ⟨xr, xs'⟩ with
        | true =>
          rw [hlt2] at HT
          have HLT := Lib.hid hlt2
          have X := Lib.hid HT.out; clear HT
          have HT := Lib.hid (show acc ++ ([] ++ ((if (⟨yr, ys⟩ : IdD) = ⟨xr, xs'⟩ then [] else [(y, ci)]) ++ putQ x cs (ps.drop (j + 1)) false)) = R from X.out); clear X
          go_wp2
          refine wp_region_x 13 [0, 1, 2, 3, 4, 5, 6, 7, 8, 9, 10, 11, 12] (by kernel_rfl) (by kernel_rfl) ?_
          have X := Lib.hid HBX.out.drew; clear HBX
          have HBX := Lib.hid X.out; clear X
          have X := Lib.hid BW.out.drew; clear BW
          have BW := Lib.hid X.out; clear X
          iterate 7 (refine wpX_quiet rfl (by kernel_rfl) rfl ?_; go_wp2; refine ⟨rfl, ?_⟩)
          refine wpX_quiet rfl (by kernel_rfl) rfl ?_; go_wp2_with (first | (refine wpList_load_row_g _ (by first | rfl | kernel_rfl) (ad.add (j * 16)) rfl [.int .i64 _, .int .i64 _] agg_Id rfl (HYI.out _ BW.out) ?_) | fail); refine ⟨rfl, ?_⟩
          iterate 1 (refine wpX_quiet rfl (by kernel_rfl) rfl ?_; go_wp2; refine ⟨rfl, ?_⟩)
          refine wpX_quiet rfl (by kernel_rfl) rfl ?_; go_wp2_with (first | (refine wpList_load_row_g _ (by first | rfl | kernel_rfl) ⟨w.heap.size, 0, none⟩ rfl [.int .i64 _, .int .i64 _] agg_Id rfl (HXI.out _ HBX.out) ?_) | fail); refine ⟨rfl, ?_⟩
          refine wpX_actor rfl (by kernel_rfl) ?_; go_wp2_with fail
          refine (l8Less_any ⟨yr, ys⟩ ⟨xr, xs'⟩ _ _ _ (id_shut _ _) (id_shut _ _)).mono ?_
          rintro e v6 ⟨rfl, hb6⟩
          rw [HLT.out]
          have HB6 := Lib.hid hb6; clear hb6
          have X := Lib.hid (HBX.out.below HB6.out); clear HBX
          have HBX := Lib.hid X.out; clear X
          have X := Lib.hid (BW.out.trans (HB6.out.mono BW.out.size)); clear BW
          have BW := Lib.hid X.out; clear X
          have X := Lib.hid (show World.ownsRow v6 (w.heap.size + 1) 38 16 (.slice A' q c') q cells from World.ownsRow.keptBelowJ (w := wr.drew) HO.out HB6.out); clear HO
          have HO := Lib.hid X.out; clear X
          have X := Lib.hid (show w.heap.size + 1 ≤ v6.heap.size from HBX.out.lt); clear HZ
          have HZ := Lib.hid X.out; clear X
          go_wp2; refine ⟨Ext.of_below HB6.out, ?_⟩
          clear HB6
          iterate 2 (refine wpX_quiet rfl (by kernel_rfl) rfl ?_; go_wp2; refine ⟨rfl, ?_⟩)
          refine wpX_nil ?_; try simp only [List.drop_succ_cons, List.drop_zero]
          by_cases e1 : yr = xr
          · subst e1
            by_cases e2 : ys = xs'
            · subst e2
              rw [idLt_irrefl] at hlt2; cases hlt2
            · have e3 : (ys == xs') = false := by simpa using e2
              have hne : ¬ (⟨yr, ys⟩ : IdD) = ⟨yr, xs'⟩ := fun h => e2 (by injection h)
              have HNE := Lib.hid hne; clear hne e2
              have hT2 := HT.out
              rw [if_neg HNE.out] at hT2
              have HT2 := Lib.hid hT2; clear hT2
              go_wp2
              refine wp_region_x 7 [0, 1, 2, 3, 4, 5, 6] (by kernel_rfl) (by kernel_rfl) ?_
              have X := Lib.hid HBX.out.drew; clear HBX
              have HBX := Lib.hid X.out; clear X
              have X := Lib.hid BW.out.drew; clear BW
              have BW := Lib.hid X.out; clear X
              iterate 4 (refine wpX_quiet rfl (by kernel_rfl) rfl ?_; go_wp2; refine ⟨rfl, ?_⟩)
              refine wpX_quiet rfl (by kernel_rfl) rfl ?_; go_wp2_with (first | (refine wpList_load_row_g _ (by first | rfl | kernel_rfl) (ad.add (j * 16)) rfl [.int .i64 _, .int .i64 _] agg_Id rfl (HYI.out _ BW.out) ?_) | fail); refine ⟨rfl, ?_⟩
              iterate 1 (refine wpX_quiet rfl (by kernel_rfl) rfl ?_; go_wp2; refine ⟨rfl, ?_⟩)
              refine wpX_quiet rfl (by kernel_rfl) rfl ?_; go_wp2_with (first | (refine wpList_load_row_g _ (by first | rfl | kernel_rfl) ⟨w.heap.size, 0, none⟩ rfl [.int .i64 _, .int .i64 _] agg_Id rfl (HXI.out _ HBX.out) ?_) | fail); refine ⟨rfl, ?_⟩
              refine wpX_nil ?_; try simp only [List.drop_succ_cons, List.drop_zero]
              go_wp2_with (first
                | ((with_reducible show wpList _ _ _ ({ dst := _, op := Op.load 38 _, type := _, pos := _, after := _, guard := _ } :: _) _ _); refine wpList_load_row _ (ad.add (j * 16)) rfl ci agg_Inst HCL.out (HC.out _ BW.out) ?_)
                | ((with_reducible show wpList _ _ _ ({ dst := _, op := Op.buildSlice _ _ _, type := _, pos := _, after := _, guard := _ } :: _) _ _); go_must (refine wpList_build1 rfl (.tmp 44) rfl ci HCL.out rfl ?_))
                | (at_builtin; go_must (refine wpList_app E_Inst _ rfl (.tmp 40) (.tmp 45) rfl (w.heap.size + 1) _ q cells rfl (HO.out.alloc _) _ _ _ _ rfl (Reads.new (e := 38) (by simp [HCL.out])) H1C.out (by omega) (by have h1 := HZ.out; simp; omega) ?_; intro vy w5 hown5 hg5 hat5; have hgb := HO.out.lt; obtain ⟨Avy, kvy, rfl, _⟩ := SlR.of_own hown5; have X := Lib.hid (show Blk w5 w.heap.size 38 cs.toArray from (HBX.out.alloc _).keep (hg5.block _ (HBX.out.alloc _).lt (fun e => by have h7 := (hgb _ e.symm).1; omega))); clear HBX; have HBX := Lib.hid X.out; clear X; have X := Lib.hid (show Below w.heap.size w w5 from Below.grown (BW.out.alloc BW.out.size _) hg5 (Nat.le_trans BW.out.size (by simp)) (fun k' hk => by have h7 := (hgb _ hk).1; omega)); clear BW; have BW := Lib.hid X.out; clear X; have X := Lib.hid (show w.heap.size + 1 ≤ w5.heap.size from HBX.out.lt); clear HZ; have HZ := Lib.hid X.out; clear X; have X := Lib.hid (show cells ++ ci = ((acc ++ [(y, ci)]).map Prod.snd).flatten from by rw [HA.out]; simp); clear HA; have HA := Lib.hid X.out; clear X; clear HO; have HO := Lib.hid hown5; clear hown5 hg5 hat5 hgb))
                | fail)
              exact ⟨⟨j + 1, _, false, Avy, kvy, _, _, by omega, rfl, rfl, by go_num, by have h0 := HQ.out; simp; omega, by omega, by have h0 := HT2.out; simpa [List.append_assoc] using h0, HO.out, HA.out, HBX.out, BW.out⟩, by simp only [intOf]; omega⟩
          · have e3 : (yr == xr) = false := by simpa using e1
            have hne : ¬ (⟨yr, ys⟩ : IdD) = ⟨xr, xs'⟩ := fun h => e1 (by injection h)
            have HNE := Lib.hid hne; clear hne e1
            have hT2 := HT.out
            rw [if_neg HNE.out] at hT2
            have HT2 := Lib.hid hT2; clear hT2
            go_wp2
            refine wp_region_x 7 [0, 1, 2, 3, 4, 5, 6] (by kernel_rfl) (by kernel_rfl) ?_
            have X := Lib.hid HBX.out.drew; clear HBX
            have HBX := Lib.hid X.out; clear X
            have X := Lib.hid BW.out.drew; clear BW
            have BW := Lib.hid X.out; clear X
            iterate 4 (refine wpX_quiet rfl (by kernel_rfl) rfl ?_; go_wp2; refine ⟨rfl, ?_⟩)
            refine wpX_quiet rfl (by kernel_rfl) rfl ?_; go_wp2_with (first | (refine wpList_load_row_g _ (by first | rfl | kernel_rfl) (ad.add (j * 16)) rfl [.int .i64 _, .int .i64 _] agg_Id rfl (HYI.out _ BW.out) ?_) | fail); refine ⟨rfl, ?_⟩
            iterate 1 (refine wpX_quiet rfl (by kernel_rfl) rfl ?_; go_wp2; refine ⟨rfl, ?_⟩)
            refine wpX_quiet rfl (by kernel_rfl) rfl ?_; go_wp2_with (first | (refine wpList_load_row_g _ (by first | rfl | kernel_rfl) ⟨w.heap.size, 0, none⟩ rfl [.int .i64 _, .int .i64 _] agg_Id rfl (HXI.out _ HBX.out) ?_) | fail); refine ⟨rfl, ?_⟩
            refine wpX_nil ?_; try simp only [List.drop_succ_cons, List.drop_zero]
            go_wp2_with (first
              | ((with_reducible show wpList _ _ _ ({ dst := _, op := Op.load 38 _, type := _, pos := _, after := _, guard := _ } :: _) _ _); refine wpList_load_row _ (ad.add (j * 16)) rfl ci agg_Inst HCL.out (HC.out _ BW.out) ?_)
              | ((with_reducible show wpList _ _ _ ({ dst := _, op := Op.buildSlice _ _ _, type := _, pos := _, after := _, guard := _ } :: _) _ _); go_must (refine wpList_build1 rfl (.tmp 44) rfl ci HCL.out rfl ?_))
              | (at_builtin; go_must (refine wpList_app E_Inst _ rfl (.tmp 40) (.tmp 45) rfl (w.heap.size + 1) _ q cells rfl (HO.out.alloc _) _ _ _ _ rfl (Reads.new (e := 38) (by simp [HCL.out])) H1C.out (by omega) (by have h1 := HZ.out; simp; omega) ?_; intro vy w5 hown5 hg5 hat5; have hgb := HO.out.lt; obtain ⟨Avy, kvy, rfl, _⟩ := SlR.of_own hown5; have X := Lib.hid (show Blk w5 w.heap.size 38 cs.toArray from (HBX.out.alloc _).keep (hg5.block _ (HBX.out.alloc _).lt (fun e => by have h7 := (hgb _ e.symm).1; omega))); clear HBX; have HBX := Lib.hid X.out; clear X; have X := Lib.hid (show Below w.heap.size w w5 from Below.grown (BW.out.alloc BW.out.size _) hg5 (Nat.le_trans BW.out.size (by simp)) (fun k' hk => by have h7 := (hgb _ hk).1; omega)); clear BW; have BW := Lib.hid X.out; clear X; have X := Lib.hid (show w.heap.size + 1 ≤ w5.heap.size from HBX.out.lt); clear HZ; have HZ := Lib.hid X.out; clear X; have X := Lib.hid (show cells ++ ci = ((acc ++ [(y, ci)]).map Prod.snd).flatten from by rw [HA.out]; simp); clear HA; have HA := Lib.hid X.out; clear X; clear HO; have HO := Lib.hid hown5; clear hown5 hg5 hat5 hgb))
              | fail)
            exact ⟨⟨j + 1, _, false, Avy, kvy, _, _, by omega, rfl, rfl, by go_num, by have h0 := HQ.out; simp; omega, by omega, by have h0 := HT2.out; simpa [List.append_assoc] using h0, HO.out, HA.out, HBX.out, BW.out⟩, by simp only [intOf]; omega⟩
        | false =>
          rw [hlt2] at HT
          have HLT := Lib.hid hlt2; clear hlt2
          have X := Lib.hid HT.out; clear HT
          have HT := Lib.hid (show (acc ++ [(x, cs)]) ++ ((if (⟨yr, ys⟩ : IdD) = ⟨xr, xs'⟩ then [] else [(y, ci)]) ++ putQ x cs (ps.drop (j + 1)) true) = R from by rw [List.append_assoc]; exact X.out); clear X
          go_wp2
          refine wp_region_x 13 [0, 1, 2, 3, 4, 5, 6, 7, 8, 9, 10, 11, 12] (by kernel_rfl) (by kernel_rfl) ?_
          have X := Lib.hid HBX.out.drew; clear HBX
          have HBX := Lib.hid X.out; clear X
          have X := Lib.hid BW.out.drew; clear BW
          have BW := Lib.hid X.out; clear X
          iterate 7 (refine wpX_quiet rfl (by kernel_rfl) rfl ?_; go_wp2; refine ⟨rfl, ?_⟩)
          refine wpX_quiet rfl (by kernel_rfl) rfl ?_; go_wp2_with (first | (refine wpList_load_row_g _ (by first | rfl | kernel_rfl) (ad.add (j * 16)) rfl [.int .i64 _, .int .i64 _] agg_Id rfl (HYI.out _ BW.out) ?_) | fail); refine ⟨rfl, ?_⟩
          iterate 1 (refine wpX_quiet rfl (by kernel_rfl) rfl ?_; go_wp2; refine ⟨rfl, ?_⟩)
          refine wpX_quiet rfl (by kernel_rfl) rfl ?_; go_wp2_with (first | (refine wpList_load_row_g _ (by first | rfl | kernel_rfl) ⟨w.heap.size, 0, none⟩ rfl [.int .i64 _, .int .i64 _] agg_Id rfl (HXI.out _ HBX.out) ?_) | fail); refine ⟨rfl, ?_⟩
          refine wpX_actor rfl (by kernel_rfl) ?_; go_wp2_with fail
          refine (l8Less_any ⟨yr, ys⟩ ⟨xr, xs'⟩ _ _ _ (id_shut _ _) (id_shut _ _)).mono ?_
          rintro e v6 ⟨rfl, hb6⟩
          rw [HLT.out]
          have HB6 := Lib.hid hb6; clear hb6
          have X := Lib.hid (HBX.out.below HB6.out); clear HBX
          have HBX := Lib.hid X.out; clear X
          have X := Lib.hid (BW.out.trans (HB6.out.mono BW.out.size)); clear BW
          have BW := Lib.hid X.out; clear X
          have X := Lib.hid (show World.ownsRow v6 (w.heap.size + 1) 38 16 (.slice A' q c') q cells from World.ownsRow.keptBelowJ (w := wr.drew) HO.out HB6.out); clear HO
          have HO := Lib.hid X.out; clear X
          have X := Lib.hid (show w.heap.size + 1 ≤ v6.heap.size from HBX.out.lt); clear HZ
          have HZ := Lib.hid X.out; clear X
          go_wp2; refine ⟨Ext.of_below HB6.out, ?_⟩
          clear HB6
          iterate 2 (refine wpX_quiet rfl (by kernel_rfl) rfl ?_; go_wp2; refine ⟨rfl, ?_⟩)
          refine wpX_nil ?_; try simp only [List.drop_succ_cons, List.drop_zero]
          go_wp2_with (first
            | ((with_reducible show wpList _ _ _ ({ dst := _, op := Op.load 38 _, type := _, pos := _, after := _, guard := _ } :: _) _ _); refine wpList_load_row _ ⟨w.heap.size, 0, none⟩ rfl cs agg_Inst HL.out (blk_cells HBX.out) ?_)
            | ((with_reducible show wpList _ _ _ ({ dst := _, op := Op.buildSlice _ _ _, type := _, pos := _, after := _, guard := _ } :: _) _ _); go_must (refine wpList_build1 rfl (.tmp 29) rfl cs HL.out rfl ?_))
            | (at_builtin; go_must (refine wpList_app E_Inst _ rfl (.tmp 28) (.tmp 30) rfl (w.heap.size + 1) _ q cells rfl (HO.out.alloc _) _ _ _ _ rfl (Reads.new (e := 38) (by simp [HL.out])) HX1.out (by omega) (by have h1 := HZ.out; simp; omega) ?_; intro vx w5 hown5 hg5 hat5; have hgb := HO.out.lt; obtain ⟨Avx, kvx, rfl, _⟩ := SlR.of_own hown5; have X := Lib.hid (show Blk w5 w.heap.size 38 cs.toArray from (HBX.out.alloc _).keep (hg5.block _ (HBX.out.alloc _).lt (fun e => by have h7 := (hgb _ e.symm).1; omega))); clear HBX; have HBX := Lib.hid X.out; clear X; have X := Lib.hid (show Below w.heap.size w w5 from Below.grown (BW.out.alloc BW.out.size _) hg5 (Nat.le_trans BW.out.size (by simp)) (fun k' hk => by have h7 := (hgb _ hk).1; omega)); clear BW; have BW := Lib.hid X.out; clear X; have X := Lib.hid (show w.heap.size + 1 ≤ w5.heap.size from HBX.out.lt); clear HZ; have HZ := Lib.hid X.out; clear X; have X := Lib.hid (show cells ++ cs = ((acc ++ [(x, cs)]).map Prod.snd).flatten from by rw [HA.out]; simp); clear HA; have HA := Lib.hid X.out; clear X; clear HO; have HO := Lib.hid hown5; clear hown5 hg5 hat5 hgb))
            | fail)
          by_cases e1 : yr = xr
          · subst e1
            by_cases e2 : ys = xs'
            · subst e2
              have hT2 := HT.out
              rw [if_pos rfl] at hT2
              have HT2 := Lib.hid hT2; clear hT2
              go_wp2
              refine wp_region_x 7 [0, 1, 2, 3, 4, 5, 6] (by kernel_rfl) (by kernel_rfl) ?_
              have X := Lib.hid HBX.out.drew; clear HBX
              have HBX := Lib.hid X.out; clear X
              have X := Lib.hid BW.out.drew; clear BW
              have BW := Lib.hid X.out; clear X
              iterate 4 (refine wpX_quiet rfl (by kernel_rfl) rfl ?_; go_wp2; refine ⟨rfl, ?_⟩)
              refine wpX_quiet rfl (by kernel_rfl) rfl ?_; go_wp2_with (first | (refine wpList_load_row_g _ (by first | rfl | kernel_rfl) (ad.add (j * 16)) rfl [.int .i64 _, .int .i64 _] agg_Id rfl (HYI.out _ BW.out) ?_) | fail); refine ⟨rfl, ?_⟩
              iterate 1 (refine wpX_quiet rfl (by kernel_rfl) rfl ?_; go_wp2; refine ⟨rfl, ?_⟩)
              refine wpX_quiet rfl (by kernel_rfl) rfl ?_; go_wp2_with (first | (refine wpList_load_row_g _ (by first | rfl | kernel_rfl) ⟨w.heap.size, 0, none⟩ rfl [.int .i64 _, .int .i64 _] agg_Id rfl (HXI.out _ HBX.out) ?_) | fail); refine ⟨rfl, ?_⟩
              refine wpX_nil ?_; try simp only [List.drop_succ_cons, List.drop_zero]
              go_wp2
              exact ⟨⟨j + 1, _, true, Avx, kvx, _, _, by omega, rfl, rfl, by go_num, by have h0 := HQ.out; simp; omega, by omega, by have h0 := HT2.out; simpa [List.append_assoc] using h0, HO.out, HA.out, HBX.out, BW.out⟩, by simp only [intOf]; omega⟩
            · have e3 : (ys == xs') = false := by simpa using e2
              have hne : ¬ (⟨yr, ys⟩ : IdD) = ⟨yr, xs'⟩ := fun h => e2 (by injection h)
              have HNE := Lib.hid hne; clear hne e2
              have hT2 := HT.out
              rw [if_neg HNE.out] at hT2
              have HT2 := Lib.hid hT2; clear hT2
              go_wp2
              refine wp_region_x 7 [0, 1, 2, 3, 4, 5, 6] (by kernel_rfl) (by kernel_rfl) ?_
              have X := Lib.hid HBX.out.drew; clear HBX
              have HBX := Lib.hid X.out; clear X
              have X := Lib.hid BW.out.drew; clear BW
              have BW := Lib.hid X.out; clear X
              iterate 4 (refine wpX_quiet rfl (by kernel_rfl) rfl ?_; go_wp2; refine ⟨rfl, ?_⟩)
              refine wpX_quiet rfl (by kernel_rfl) rfl ?_; go_wp2_with (first | (refine wpList_load_row_g _ (by first | rfl | kernel_rfl) (ad.add (j * 16)) rfl [.int .i64 _, .int .i64 _] agg_Id rfl (HYI.out _ BW.out) ?_) | fail); refine ⟨rfl, ?_⟩
              iterate 1 (refine wpX_quiet rfl (by kernel_rfl) rfl ?_; go_wp2; refine ⟨rfl, ?_⟩)
              refine wpX_quiet rfl (by kernel_rfl) rfl ?_; go_wp2_with (first | (refine wpList_load_row_g _ (by first | rfl | kernel_rfl) ⟨w.heap.size, 0, none⟩ rfl [.int .i64 _, .int .i64 _] agg_Id rfl (HXI.out _ HBX.out) ?_) | fail); refine ⟨rfl, ?_⟩
              refine wpX_nil ?_; try simp only [List.drop_succ_cons, List.drop_zero]
              go_wp2_with (first
                | ((with_reducible show wpList _ _ _ ({ dst := _, op := Op.load 38 _, type := _, pos := _, after := _, guard := _ } :: _) _ _); refine wpList_load_row _ (ad.add (j * 16)) rfl ci agg_Inst HCL.out (HC.out _ BW.out) ?_)
                | ((with_reducible show wpList _ _ _ ({ dst := _, op := Op.buildSlice _ _ _, type := _, pos := _, after := _, guard := _ } :: _) _ _); go_must (refine wpList_build1 rfl (.tmp 44) rfl ci HCL.out rfl ?_))
                | (at_builtin; go_must (refine wpList_app E_Inst _ rfl (.tmp 40) (.tmp 45) rfl (w.heap.size + 1) _ (q + 1) (cells ++ cs) rfl (HO.out.alloc _) _ _ _ _ rfl (Reads.new (e := 38) (by simp [HCL.out])) H1C.out (by omega) (by have h1 := HZ.out; simp; omega) ?_; intro vxy w5 hown5 hg5 hat5; have hgb := HO.out.lt; obtain ⟨Avxy, kvxy, rfl, _⟩ := SlR.of_own hown5; have X := Lib.hid (show Blk w5 w.heap.size 38 cs.toArray from (HBX.out.alloc _).keep (hg5.block _ (HBX.out.alloc _).lt (fun e => by have h7 := (hgb _ e.symm).1; omega))); clear HBX; have HBX := Lib.hid X.out; clear X; have X := Lib.hid (show Below w.heap.size w w5 from Below.grown (BW.out.alloc BW.out.size _) hg5 (Nat.le_trans BW.out.size (by simp)) (fun k' hk => by have h7 := (hgb _ hk).1; omega)); clear BW; have BW := Lib.hid X.out; clear X; have X := Lib.hid (show w.heap.size + 1 ≤ w5.heap.size from HBX.out.lt); clear HZ; have HZ := Lib.hid X.out; clear X; have X := Lib.hid (show (cells ++ cs) ++ ci = (((acc ++ [(x, cs)]) ++ [(y, ci)]).map Prod.snd).flatten from by rw [HA.out]; simp); clear HA; have HA := Lib.hid X.out; clear X; clear HO; have HO := Lib.hid hown5; clear hown5 hg5 hat5 hgb))
                | fail)
              exact ⟨⟨j + 1, _, true, Avxy, kvxy, _, _, by omega, rfl, rfl, by go_num, by have h0 := HQ.out; simp; omega, by omega, by have h0 := HT2.out; simpa [List.append_assoc] using h0, HO.out, HA.out, HBX.out, BW.out⟩, by simp only [intOf]; omega⟩
          · have e3 : (yr == xr) = false := by simpa using e1
            have hne : ¬ (⟨yr, ys⟩ : IdD) = ⟨xr, xs'⟩ := fun h => e1 (by injection h)
            have HNE := Lib.hid hne; clear hne e1
            have hT2 := HT.out
            rw [if_neg HNE.out] at hT2
            have HT2 := Lib.hid hT2; clear hT2
            go_wp2
            refine wp_region_x 7 [0, 1, 2, 3, 4, 5, 6] (by kernel_rfl) (by kernel_rfl) ?_
            have X := Lib.hid HBX.out.drew; clear HBX
            have HBX := Lib.hid X.out; clear X
            have X := Lib.hid BW.out.drew; clear BW
            have BW := Lib.hid X.out; clear X
            iterate 4 (refine wpX_quiet rfl (by kernel_rfl) rfl ?_; go_wp2; refine ⟨rfl, ?_⟩)
            refine wpX_quiet rfl (by kernel_rfl) rfl ?_; go_wp2_with (first | (refine wpList_load_row_g _ (by first | rfl | kernel_rfl) (ad.add (j * 16)) rfl [.int .i64 _, .int .i64 _] agg_Id rfl (HYI.out _ BW.out) ?_) | fail); refine ⟨rfl, ?_⟩
            iterate 1 (refine wpX_quiet rfl (by kernel_rfl) rfl ?_; go_wp2; refine ⟨rfl, ?_⟩)
            refine wpX_quiet rfl (by kernel_rfl) rfl ?_; go_wp2_with (first | (refine wpList_load_row_g _ (by first | rfl | kernel_rfl) ⟨w.heap.size, 0, none⟩ rfl [.int .i64 _, .int .i64 _] agg_Id rfl (HXI.out _ HBX.out) ?_) | fail); refine ⟨rfl, ?_⟩
            refine wpX_nil ?_; try simp only [List.drop_succ_cons, List.drop_zero]
            go_wp2_with (first
              | ((with_reducible show wpList _ _ _ ({ dst := _, op := Op.load 38 _, type := _, pos := _, after := _, guard := _ } :: _) _ _); refine wpList_load_row _ (ad.add (j * 16)) rfl ci agg_Inst HCL.out (HC.out _ BW.out) ?_)
              | ((with_reducible show wpList _ _ _ ({ dst := _, op := Op.buildSlice _ _ _, type := _, pos := _, after := _, guard := _ } :: _) _ _); go_must (refine wpList_build1 rfl (.tmp 44) rfl ci HCL.out rfl ?_))
              | (at_builtin; go_must (refine wpList_app E_Inst _ rfl (.tmp 40) (.tmp 45) rfl (w.heap.size + 1) _ (q + 1) (cells ++ cs) rfl (HO.out.alloc _) _ _ _ _ rfl (Reads.new (e := 38) (by simp [HCL.out])) H1C.out (by omega) (by have h1 := HZ.out; simp; omega) ?_; intro vxy w5 hown5 hg5 hat5; have hgb := HO.out.lt; obtain ⟨Avxy, kvxy, rfl, _⟩ := SlR.of_own hown5; have X := Lib.hid (show Blk w5 w.heap.size 38 cs.toArray from (HBX.out.alloc _).keep (hg5.block _ (HBX.out.alloc _).lt (fun e => by have h7 := (hgb _ e.symm).1; omega))); clear HBX; have HBX := Lib.hid X.out; clear X; have X := Lib.hid (show Below w.heap.size w w5 from Below.grown (BW.out.alloc BW.out.size _) hg5 (Nat.le_trans BW.out.size (by simp)) (fun k' hk => by have h7 := (hgb _ hk).1; omega)); clear BW; have BW := Lib.hid X.out; clear X; have X := Lib.hid (show w.heap.size + 1 ≤ w5.heap.size from HBX.out.lt); clear HZ; have HZ := Lib.hid X.out; clear X; have X := Lib.hid (show (cells ++ cs) ++ ci = (((acc ++ [(x, cs)]) ++ [(y, ci)]).map Prod.snd).flatten from by rw [HA.out]; simp); clear HA; have HA := Lib.hid X.out; clear X; clear HO; have HO := Lib.hid hown5; clear hown5 hg5 hat5 hgb))
              | fail)
            exact ⟨⟨j + 1, _, true, Avxy, kvxy, _, _, by omega, rfl, rfl, by go_num, by have h0 := HQ.out; simp; omega, by omega, by have h0 := HT2.out; simpa [List.append_assoc] using h0, HO.out, HA.out, HBX.out, BW.out⟩, by simp only [intOf]; omega⟩
    · have hjn : j = n := by omega
      subst hjn
      have hd : ps.drop j = [] := List.drop_eq_nil_of_le (by have := HN.out; omega)
      rw [hd] at hT
      have HT := Lib.hid hT; clear hT hd
      cases p with
      | true =>
        have hT2 : acc = R := by have h0 := HT.out; simpa [putQ] using h0
        subst hT2
        go_wp2
        go_ret
        exact ⟨_, _, _, rfl, HQ.out, by have h1 := HO.out; rw [HA.out] at h1; exact own_lower h1, BW.out⟩
      | false =>
        have hT2 : acc ++ [(x, cs)] = R := by have h0 := HT.out; simpa [putQ] using h0
        have HT2 := Lib.hid hT2; clear hT2
        go_wp2_with (first
          | ((with_reducible show wpList _ _ _ ({ dst := _, op := Op.load 38 _, type := _, pos := _, after := _, guard := _ } :: _) _ _); refine wpList_load_row _ ⟨w.heap.size, 0, none⟩ rfl cs agg_Inst HL.out (blk_cells HBX.out) ?_)
          | ((with_reducible show wpList _ _ _ ({ dst := _, op := Op.buildSlice _ _ _, type := _, pos := _, after := _, guard := _ } :: _) _ _); go_must (refine wpList_build1 rfl (.tmp 50) rfl cs HL.out rfl ?_))
          | (at_builtin; go_must (refine wpList_app E_Inst _ rfl (.tmp 49) (.tmp 51) rfl (w.heap.size + 1) _ q cells rfl (HO.out.alloc _) _ _ _ _ rfl (Reads.new (e := 38) (by simp [HL.out])) HX1.out (by omega) (by have h1 := HZ.out; simp; omega) ?_; intro vx w5 hown5 hg5 hat5; have hgb := HO.out.lt; obtain ⟨Avx, kvx, rfl, _⟩ := SlR.of_own hown5; have X := Lib.hid (show Blk w5 w.heap.size 38 cs.toArray from (HBX.out.alloc _).keep (hg5.block _ (HBX.out.alloc _).lt (fun e => by have h7 := (hgb _ e.symm).1; omega))); clear HBX; have HBX := Lib.hid X.out; clear X; have X := Lib.hid (show Below w.heap.size w w5 from Below.grown (BW.out.alloc BW.out.size _) hg5 (Nat.le_trans BW.out.size (by simp)) (fun k' hk => by have h7 := (hgb _ hk).1; omega)); clear BW; have BW := Lib.hid X.out; clear X; have X := Lib.hid (show w.heap.size + 1 ≤ w5.heap.size from HBX.out.lt); clear HZ; have HZ := Lib.hid X.out; clear X; have X := Lib.hid (show cells ++ cs = ((acc ++ [(x, cs)]).map Prod.snd).flatten from by rw [HA.out]; simp); clear HA; have HA := Lib.hid X.out; clear X; clear HO; have HO := Lib.hid hown5; clear hown5 hg5 hat5 hgb))
          | fail)
        go_ret
        exact ⟨_, _, _, rfl, by rw [← HT2.out, HQ.out]; simp, by have h1 := HO.out; rw [HA.out] at h1; rw [← HT2.out]; exact own_lower h1, BW.out⟩

end Go.Proofs.YtonaacdefidomaaGreat
namespace Go.Proofs.YtonaacdefidomaaGreat
open Go.RowKit
theorem own_appP {w : World} {base : Nat} {a b : List (InstD × List Value)} {F1 F2 : List Nat} (h1 : Own w base (cat InstD.c (a.map Prod.fst)) ((a.map Prod.snd).flatten) F1) (h2 : Own w base (cat InstD.c (b.map Prod.fst)) ((b.map Prod.snd).flatten) F2) :
    Own w base (cat InstD.c ((a ++ b).map Prod.fst)) (((a ++ b).map Prod.snd).flatten) (F1 ++ F2) := by
  rw [List.map_append, List.map_append, List.flatten_append, cat_app]
  exact Own.app.2 ⟨_, _, _, _, rfl, rfl, h1, h2⟩
theorem own_nilP {w : World} {base : Nat} : Own w base (cat InstD.c (([] : List (InstD × List Value)).map Prod.fst)) ((([] : List (InstD × List Value)).map Prod.snd).flatten) [] := Own.nil.2 ⟨rfl, rfl⟩
theorem own_oneP {w : World} {base : Nat} {x : InstD} {cs : List Value} {F : List Nat} (h : Own w base x.c cs F) : Own w base (cat InstD.c ([(x, cs)].map Prod.fst)) (([(x, cs)].map Prod.snd).flatten) F := by
  have h1 : Own w base (cat InstD.c [x]) cs F := by rw [cat_one]; exact h
  simpa using h1
theorem own_consP {w : World} {base : Nat} {y : InstD} {ci : List Value} {r : List (InstD × List Value)} {F : List Nat} (h16 : ci.length = 16) (h : Own w base (cat InstD.c (((y, ci) :: r).map Prod.fst)) ((((y, ci) :: r).map Prod.snd).flatten) F) :
    ∃ F1 F2, F = F1 ++ F2 ∧ Own w base y.c ci F1 ∧ Own w base (cat InstD.c (r.map Prod.fst)) ((r.map Prod.snd).flatten) F2 := by
  rw [List.map_cons, List.map_cons, List.flatten_cons, cat_cons] at h
  obtain ⟨c1, c2, F1, F2, hc, rfl, h1, h2⟩ := Own.app.1 h
  obtain ⟨rfl, rfl⟩ := List.append_inj hc (by show ci.length = c1.length; rw [h1.length, InstD.width]; exact h16)
  exact ⟨F1, F2, rfl, h1, h2⟩
/-- each block once, of those that were there -/
theorem putQ_own {w : World} {base : Nat} {x : InstD} {cs : List Value} {Fx : List Nat} (hx : Own w base x.c cs Fx) : ∀ (d : List (InstD × List Value)) (b : Bool) {F : List Nat}, (∀ p ∈ d, p.2.length = 16) → Own w base (cat InstD.c (d.map Prod.fst)) ((d.map Prod.snd).flatten) F → (F ++ Fx).Nodup →
    ∃ F', F'.Nodup ∧ (∀ g ∈ F', g ∈ F ∨ (b = false ∧ g ∈ Fx)) ∧ Own w base (cat InstD.c ((putQ x cs d b).map Prod.fst)) (((putQ x cs d b).map Prod.snd).flatten) F'
  | [], true, F, _, h, hn => ⟨[], List.nodup_nil, fun g hg => (by cases hg), own_nilP⟩
  | [], false, F, _, h, hn => ⟨Fx, (List.nodup_append.1 hn).2.1, fun g hg => .inr ⟨rfl, hg⟩, own_oneP hx⟩
  | (y, ci) :: r, b, F, h16, h, hn => by
    obtain ⟨F1, F2, rfl, h1, h2⟩ := own_consP (h16 (y, ci) (by simp)) h
    obtain ⟨n1, nx, d1⟩ := List.nodup_append.1 hn
    obtain ⟨n1, n2, d2⟩ := List.nodup_append.1 n1
    obtain ⟨F3, n3, s3, h3⟩ := putQ_own hx r (b || !idLt y.id x.id) (fun p hp => h16 p (by simp [hp])) h2 (List.nodup_append.2 ⟨n2, nx, fun a ha c hc => d1 a (by simp [ha]) c hc⟩)
    obtain ⟨F4, n4, s4, h4⟩ : ∃ F4 : List Nat, F4.Nodup ∧ (∀ g ∈ F4, g ∈ F1) ∧ Own w base (cat InstD.c ((if y.id = x.id then [] else [(y, ci)] : List (InstD × List Value)).map Prod.fst)) (((if y.id = x.id then [] else [(y, ci)] : List (InstD × List Value)).map Prod.snd).flatten) F4 := by
      split
      · exact ⟨[], List.nodup_nil, fun g hg => (by cases hg), own_nilP⟩
      · exact ⟨F1, n1, fun g hg => hg, own_oneP h1⟩
    have n5 : (F4 ++ F3).Nodup := List.nodup_append.2 ⟨n4, n3, fun a ha c hc e => by
      subst e
      rcases s3 a hc with h5 | ⟨_, h5⟩
      · exact d2 a (s4 a ha) a h5 rfl
      · exact d1 a (by simp [s4 a ha]) a h5 rfl⟩
    rw [putQ]
    cases hb : (b || idLt y.id x.id) with
    | true =>
      refine ⟨F4 ++ F3, n5, fun g hg => ?_, ?_⟩
      · rcases List.mem_append.1 hg with h5 | h5
        · exact .inl (by simp [s4 g h5])
        · rcases s3 g h5 with h6 | ⟨h6, h7⟩
          · exact .inl (by simp [h6])
          · exact .inr ⟨by simp at h6; exact h6.1, h7⟩
      · rw [if_pos rfl, List.nil_append]
        exact own_appP h4 h3
    | false =>
      have hb1 : b = false := by simp at hb; exact hb.1
      have hb2 : idLt y.id x.id = false := by simp at hb; exact hb.2
      have s5 : ∀ g ∈ F3, g ∈ F2 := fun g hg => by
        rcases s3 g hg with h6 | ⟨h6, _⟩
        · exact h6
        · simp [hb2] at h6
      refine ⟨Fx ++ (F4 ++ F3), List.nodup_append.2 ⟨nx, n5, fun a ha c hc e => ?_⟩, fun g hg => ?_, ?_⟩
      · subst e
        rcases List.mem_append.1 hc with h5 | h5
        · exact d1 a (by simp [s4 a h5]) a ha rfl
        · exact d1 a (by simp [s5 a h5]) a ha rfl
      · rcases List.mem_append.1 hg with h5 | h5
        · exact .inr ⟨hb1, h5⟩
        · rcases List.mem_append.1 h5 with h6 | h6
          · exact .inl (by simp [s4 g h6])
          · exact .inl (by simp [s5 g h6])
      · rw [if_neg (by simp)]
        exact own_appP (own_oneP hx) (own_appP h4 h3)
/-- a row's cells in pieces -/
theorem pieces {w : World} {base : Nat} : ∀ {xs : List InstD} {cells : List Value} {F : List Nat}, Own w base (cat InstD.c xs) cells F → ∃ d : List (InstD × List Value), d.map Prod.fst = xs ∧ (d.map Prod.snd).flatten = cells ∧ (∀ p ∈ d, p.2.length = 16) ∧ ∀ p ∈ d, Rep anyB w p.1.c p.2
  | [], cells, F, h => by
    obtain ⟨rfl, _⟩ := Own.nil.1 (show Own w base .nil cells F from h)
    exact ⟨[], rfl, rfl, fun p hp => (by cases hp), fun p hp => (by cases hp)⟩
  | x :: r, cells, F, h => by
    rw [cat_cons] at h
    obtain ⟨c1, c2, F1, F2, rfl, rfl, h1, h2⟩ := Own.app.1 h
    obtain ⟨d, e1, e2, e3, e4⟩ := pieces h2
    refine ⟨(x, c1) :: d, by rw [List.map_cons, e1], by rw [List.map_cons, List.flatten_cons, e2], fun p hp => ?_, fun p hp => ?_⟩
    · rcases List.mem_cons.1 hp with rfl | hp
      · exact h1.length.trans (InstD.width x)
      · exact e3 p hp
    · rcases List.mem_cons.1 hp with rfl | hp
      · exact h1.repAny
      · exact e4 p hp
/-- spec.l8Put on what is owned -/
theorem l8PutM_any (xs : List InstD) (x : InstD) (A : Option Addr) (base n c : Nat) (cs : List Value) (Fx : List Nat) (w : World) (hn : n = xs.length) (hn1 : n ≤ 1048576) (hb : base ≤ w.heap.size) (F : List Nat) (h : Own w base (.sl 38 16 n (cat InstD.c xs) .nil) [.slice A n c] F) (hx : Own w base x.c cs Fx) (hF : (F ++ Fx).Nodup) :
    Calls Tryz.prog 47 #[.slice A n c, .agg cs.toArray] w fun e w' => ∃ A2 m c2, e = .returned (.slice A2 m c2) ∧ m = (fPut xs x).length ∧ Mine w' base (.sl 38 16 m (cat InstD.c (fPut xs x)) .nil) [.slice A2 m c2] ∧ Below w.heap.size w w' := by
  obtain ⟨cells, F1, rfl, _, hr, hi⟩ := Own.sl1.1 h
  obtain ⟨d, rfl, rfl, h16, hrp⟩ := pieces hi
  have hnd : (F1 ++ Fx).Nodup := by rw [List.append_assoc] at hF; exact (List.nodup_append.1 hF).2.1
  obtain ⟨F', n', s', o'⟩ := putQ_own hx d false h16 hi hnd
  have hm : ∀ v : Value, (putQ x cs d false).length = (fPut (d.map Prod.fst) x).length := fun _ => by unfold fPut; rw [← putQ_fst (cs := cs), List.length_map]
  refine (l8PutQ_any d x A base n c cs w (by rw [hn, List.length_map]) hn1 h16 hrp hr hx.repAny).mono ?_
  rintro e w' ⟨A2, m, c2, rfl, hm2, ho, hbl⟩
  refine ⟨A2, m, c2, rfl, hm2.trans (hm (.bool true)), ?_, hbl⟩
  have o2 := o'.below hbl
  rw [putQ_fst] at o2
  have hlt : ∀ b, (Value.slice A2 m c2).ownBlock = some b → w.heap.size ≤ b := fun b hb2 => (ho.lt b hb2).1
  refine ⟨(Value.slice A2 m c2).ownBlock.toList ++ F', ?_, Own.sl1.2 ⟨_, F', rfl, by rw [cat_width InstD.width]; show (fPut _ _).length * 16 = _; rw [hm2, hm (.bool true)], ownsRow_keep ho (fun b hb2 => ⟨Nat.le_trans hb (hlt b hb2), rfl⟩), o2⟩⟩
  refine List.nodup_append.2 ⟨nodup_own _, n', fun a ha c hc e => ?_⟩
  subst e
  have h5 := hlt a (by simpa using ha)
  have h6 := (o'.in a hc).2
  omega
end Go.Proofs.YtonaacdefidomaaGreat
namespace Go.Proofs.YtonaacdefidomaaGreat
open Go.RowKit
theorem join_comm (a b : List IdD) : fJoinIds a b = fJoinIds b a := by
  unfold fJoinIds
  by_cases h : idsOkB a = true ∧ idsOkB b = true
  · rw [if_pos h, if_pos h.symm]
    exact asc_ext (asc_joinF (ids_asc h.1) (ids_asc h.2)) (asc_joinF (ids_asc h.2) (ids_asc h.1)) (fun x => by rw [mem_joinF, mem_joinF, or_comm])
  · rw [if_neg h, if_neg (fun h2 => h h2.symm)]
theorem join_has {a b : List IdD} (ha : idsOkB a = true) (hb : idsOkB b = true) {x : IdD} (hx : x ∈ a) : x ∈ fJoinIds a b := by
  rw [fJoinIds, if_pos ⟨ha, hb⟩]
  exact mem_joinF.2 (.inl hx)
theorem asc_inj : ∀ {xs : List InstD}, AscI xs → ∀ {x y : InstD}, x ∈ xs → y ∈ xs → x.id = y.id → x = y
  | [], _, _, _, hx, _, _ => by cases hx
  | z :: r, h, x, y, hx, hy, e => by
    obtain ⟨h1, h2⟩ := List.pairwise_cons.1 h
    rcases List.mem_cons.1 hx with e1 | hx1
    · rcases List.mem_cons.1 hy with e2 | hy1
      · rw [e1, e2]
      · have h3 := h1 y hy1
        rw [← e1, e, idLt_irrefl] at h3
        cases h3
    · rcases List.mem_cons.1 hy with e2 | hy1
      · have h3 := h1 x hx1
        rw [← e2, e, idLt_irrefl] at h3
        cases h3
      · exact asc_inj h2 hx1 hy1 e

/-- a command hangs on exactly those that it conflicts with -/
theorem deps_iff {xs : List InstD} (h : instsOkB xs = true) (id : IdD) (c : CmdD) {x : InstD} (hx : x ∈ xs) : x.id ∈ (fAttrsOf xs id c).2 ↔ keepB id c x = true := by
  rw [fAttrsOf, if_pos h]
  show x.id ∈ depsL id c xs ↔ _
  rw [depsL, List.mem_map]
  constructor
  · rintro ⟨y, hy, e⟩
    obtain ⟨hy1, hy2⟩ := List.mem_filter.1 hy
    rw [← asc_inj (insts_asc h) hy1 hx e]
    exact hy2
  · exact fun hk => ⟨x, List.mem_filter.2 ⟨hx, hk⟩, rfl⟩
theorem fold_ge (id : IdD) (c : CmdD) : ∀ (xs : List InstD) (s : Int), s ≤ xs.foldl (fun s x => if keepB id c x = true then max s x.seq else s) s ∧ ∀ x ∈ xs, keepB id c x = true → x.seq ≤ xs.foldl (fun s x => if keepB id c x = true then max s x.seq else s) s
  | [], s => ⟨Int.le_refl _, fun x hx => by cases hx⟩
  | y :: r, s => by
    have ih := fold_ge id c r (if keepB id c y = true then max s y.seq else s)
    rw [List.foldl_cons]
    have h1 : s ≤ (if keepB id c y = true then max s y.seq else s) := by split <;> omega
    refine ⟨Int.le_trans h1 ih.1, fun x hx hk => ?_⟩
    rcases List.mem_cons.1 hx with rfl | hx
    · refine Int.le_trans ?_ ih.1
      rw [if_pos hk]; omega
    · exact ih.2 x hx hk
theorem seq_gt {xs : List InstD} (h : instsOkB xs = true) (id : IdD) (c : CmdD) {x : InstD} (hx : x ∈ xs) (hk : keepB id c x = true) : x.seq < (fAttrsOf xs id c).1 := by
  rw [fAttrsOf, if_pos h]
  have := (fold_ge id c xs 0).2 x hx hk
  show x.seq < seqL id c xs + 1
  unfold seqL
  omega

theorem put_good {l : List InstD} (x : InstD) (h : instsOkB l = true) : instsOkB (fInstPut l x) = true := by
  rw [fInstPut, if_pos h]
  cases hx : instOkB x with
  | true => rw [if_pos rfl, put_ok h]; exact hx
  | false => rw [if_neg (by simp)]; exact h
theorem put_at {l : List InstD} (x : InstD) (h : instsOkB l = true) : fInstAt (fInstPut l x) x.id = x ∨ fInstPut l x = l := by
  rw [fInstPut, if_pos h]
  cases hx : instOkB x with
  | false => right; rw [if_neg (by simp)]
  | true =>
    left
    rw [if_pos rfl]
    unfold fInstAt
    have h1 : x ∈ fPut l x := mem_putA.2 (.inl ⟨rfl, rfl⟩)
    cases hf : (fPut l x).find? (fun y => decide (y.id = x.id)) with
    | none => exact absurd h1 (fun h2 => by have := List.find?_eq_none.1 hf x h2; simp at this)
    | some z =>
      have h2 := List.mem_of_find?_eq_some hf
      have h3 := List.find?_some hf
      have h4 : z.id = x.id := by simpa using h3
      rcases mem_putA.1 h2 with ⟨rfl, _⟩ | ⟨_, h5⟩
      · rfl
      · exact absurd h4 h5
end Go.Proofs.YtonaacdefidomaaGreat
