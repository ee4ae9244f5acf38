/-
  An instance by its Id: spec.InstAt. Conditions: a bound on the sizes.
-/
import Derived.Test.YtbdblfpepnoafaaCpyI
import Derived.Test.YtbdblfpepnoafaaCpyIS
import Derived.Test.YtbdblfpepnoafaaInsts
namespace Go.Proofs.Ytbdblfpepnoafaa
open Go.RowKit

def newInst (x : IdD) : InstD := ⟨x, -1, -1, 0, ⟨0, 0, 0, [], [], [], 0, []⟩, 0, [], false⟩
def fInstAt (xs : List InstD) (x : IdD) : InstD := (xs.find? fun y => decide (y.id = x)).getD (newInst x)
theorem instAt_yes {xs : List InstD} {x : IdD} {j : Nat} (hj : j < xs.length) (h : ∀ i (hi : i < xs.length), i < j → ¬ xs[i].id = x) (he : xs[j].id = x) : fInstAt xs x = xs[j] := by
  unfold fInstAt
  have : xs.find? (fun y => decide (y.id = x)) = some xs[j] := by
    rw [List.find?_eq_some_iff_getElem]
    refine ⟨by simpa using he, j, hj, rfl, fun i hi => ?_⟩
    simpa using h i (by omega) hi
  rw [this]; rfl
theorem instAt_no {xs : List InstD} {x : IdD} (h : ∀ i (hi : i < xs.length), ¬ xs[i].id = x) : fInstAt xs x = newInst x := by
  unfold fInstAt
  have : xs.find? (fun y => decide (y.id = x)) = none := by
    rw [List.find?_eq_none]
    intro y hy
    obtain ⟨i, hi, rfl⟩ := List.getElem_of_mem hy
    simpa using h i hi
  rw [this]; rfl
theorem newInst_mine (w : World) (base : Nat) (xr xs' : Int) : Mine w base (newInst ⟨xr, xs'⟩).c [.int .i64 xr, .int .i64 xs', .int .i64 (-1), .int .i64 (-1), .int .i64 0, .int .i64 0, .int .i64 0, .int .i64 0, .string (bs []), .string (bs []), .string (bs []), .int .i64 0, .slice none 0 0, .int .i64 0, .slice none 0 0, .bool false] :=
  ⟨[], List.nodup_nil, InstD.shutO (x := newInst ⟨xr, xs'⟩) (F0 := []) (F1 := []) (Own.sl_none _ rfl) (Own.sl_none _ rfl)⟩

set_option maxRecDepth 100000 in
set_option maxHeartbeats 2000000 in
theorem sInstAt_any (xs : List InstD) (x : IdD) (A : Option Addr) (n c : Nat) (cs : List Value) (w : World) (hn : n = xs.length) (hwt : n + (cat InstD.c xs).wt ≤ 1048576) (_ : x.c.wt ≤ 1048576) (h : Rep anyB w (.sl 49 16 n (cat InstD.c xs) .nil) [.slice A n c]) (h' : Rep anyB w x.c cs) :
    Calls Try.prog 29 #[.slice A n c, .agg cs.toArray] w fun e w' => ∃ cs', e = .returned (.agg cs'.toArray) ∧ Mine w' w.heap.size (fInstAt xs x).c cs' ∧ Below w.heap.size w w' := by
  have HN := Lib.hid hn; clear hn
  have HR := Lib.hid h; clear h
  obtain rfl := IdD.open h'
  clear h'
  obtain ⟨R, hR⟩ : ∃ R, R = fInstAt xs x := ⟨_, rfl⟩
  rw [← hR]
  have hno := @instAt_no xs x
  rw [← hR] at hno
  have hye := fun j hj h he => (hR.trans (@instAt_yes xs x j hj h he))
  have HNO := Lib.hid hno; clear hno
  have HYE := Lib.hid hye; clear hye hR
  obtain ⟨xr, xs'⟩ := x
  simp only [] at HNO HYE ⊢
  have hnb : n ≤ 1048576 := by omega
  have HWT := Lib.hid hwt; clear hwt
  have SB := Lib.hid (show Blk ((w.alloc (.cells #[.int .i64 xr, .int .i64 xs'] 32)).alloc (.cells #[.int .i64 0, .int .i64 0, .int .i64 0, .int .i64 0, .int .i64 0, .int .i64 0, .int .i64 0, .int .i64 0, .string ⟨#[]⟩, .string ⟨#[]⟩, .string ⟨#[]⟩, .int .i64 0, .slice none 0 0, .int .i64 0, .slice none 0 0, .bool false] 49)) w.heap.size 32 [.int .i64 xr, .int .i64 xs'].toArray from blk2_0 _ _ _ _)
  have ZB := Lib.hid (show Blk ((w.alloc (.cells #[.int .i64 xr, .int .i64 xs'] 32)).alloc (.cells #[.int .i64 0, .int .i64 0, .int .i64 0, .int .i64 0, .int .i64 0, .int .i64 0, .int .i64 0, .int .i64 0, .string ⟨#[]⟩, .string ⟨#[]⟩, .string ⟨#[]⟩, .int .i64 0, .slice none 0 0, .int .i64 0, .slice none 0 0, .bool false] 49)) (w.heap.size + 1) 49 [.int .i64 0, .int .i64 0, .int .i64 0, .int .i64 0, .int .i64 0, .int .i64 0, .int .i64 0, .int .i64 0, .string ⟨#[]⟩, .string ⟨#[]⟩, .string ⟨#[]⟩, .int .i64 0, .slice none 0 0, .int .i64 0, .slice none 0 0, .bool false].toArray from blk2_1 _ _ _ _)
  go_enter Try.func29, Try.ntmps29
  go_wp2
  go_loopw [5] (fun ii wr => ∃ j : Nat, j ≤ n ∧ ii = .int .i64 (j : Int) ∧ (∀ i (hi : i < xs.length), i < j → ¬ xs[i].id = ⟨xr, xs'⟩) ∧ Blk wr w.heap.size 32 [.int .i64 xr, .int .i64 xs'].toArray ∧ Blk wr (w.heap.size + 1) 49 [.int .i64 0, .int .i64 0, .int .i64 0, .int .i64 0, .int .i64 0, .int .i64 0, .int .i64 0, .int .i64 0, .string ⟨#[]⟩, .string ⟨#[]⟩, .string ⟨#[]⟩, .int .i64 0, .slice none 0 0, .int .i64 0, .slice none 0 0, .bool false].toArray ∧ Below w.heap.size w wr) (fun ii _ => n - (intOf ii).toNat)
  case atStart => exact ⟨0, Nat.zero_le _, rfl, fun i hi h => absurd h (Nat.not_lt_zero _), SB.out, ZB.out, (by repeat' (first | with_reducible exact Below.refl _ _ | with_reducible exact BW.out | with_reducible refine Below.setCell ?_ ?_ _ | with_reducible refine Below.alloc ?_ ?_ _ | with_reducible refine Below.drew ?_ | (simp; done) | (simp; omega) | omega))⟩
  case round =>
    obtain ⟨j, hj, rfl, hall, hsb, hzb, hbel⟩ := hrel
    clear SB ZB
    have SB := Lib.hid hsb; clear hsb
    have ZB := Lib.hid hzb; clear hzb
    have HA := Lib.hid hall; clear hall
    have BW := Lib.hid hbel; clear hbel
    by_cases hlt : j < n
    · have hjx : j < xs.length := by have := HN.out; omega
      obtain ⟨ad, ci, rfl, _, _, hrc, hl, hc⟩ := (HR.out.below BW.out).elem InstD.width j hjx HN.out
      have hwx : (xs[j].c).wt ≤ 1048576 := by have := cat_wt_le (f := InstD.c) (List.getElem_mem hjx); have := HWT.out; omega
      have hye := HYE.out j hjx (fun i hi hij => HA.out i hi hij)
      have hst : ¬ xs[j].id = ⟨xr, xs'⟩ → ∀ i (hi : i < xs.length), i < j + 1 → ¬ xs[i].id = ⟨xr, xs'⟩ := fun hne i hi hij => by
        by_cases he : i = j
        · subst he; exact hne
        · exact HA.out i hi (by omega)
      have HST := Lib.hid hst; clear hst
      have HY2 := Lib.hid hye; clear hye
      have hcid := id_cells hrc hc
      generalize xs[j] = y at *
      have HL := Lib.hid hl; clear hl
      have HC := Lib.hid hc; clear hc
      have HRC := Lib.hid hrc; clear hrc
      obtain ⟨yr, ys, hyid⟩ : ∃ yr ys, y.id = ⟨yr, ys⟩ := ⟨y.id.rep, y.id.slot, rfl⟩
      rw [hyid] at HST HY2 hcid
      have HCI := Lib.hid hcid; clear hcid hyid
      by_cases e1 : yr = xr
      · subst e1
        by_cases e2 : ys = xs'
        · subst e2
          have hRy := HY2.out rfl
          subst hRy
          go_wp2
          refine wp_region_x 6 [0, 1, 2, 3, 4, 5] (by kernel_rfl) (by kernel_rfl) ?_
          iterate 4 (refine wpX_quiet rfl (by kernel_rfl) rfl ?_; go_wp2; refine ⟨rfl, ?_⟩)
          refine wpX_quiet rfl (by kernel_rfl) rfl ?_; go_wp2_with (first | (refine wpList_load_row _ (ad.add (j * 16)) rfl [.int .i64 _, .int .i64 _] agg_Id rfl HCI.out ?_) | fail); refine ⟨rfl, ?_⟩
          refine wpX_quiet rfl (by kernel_rfl) rfl ?_; go_wp2_with (first | (refine wpList_load_row _ ⟨w.heap.size, 0, none⟩ rfl [.int .i64 _, .int .i64 _] agg_Id rfl (blk_cells SB.out) ?_) | fail); refine ⟨rfl, ?_⟩
          refine wpX_nil ?_; try simp only [List.drop_succ_cons, List.drop_zero]
          go_wp2_with (first | ((with_reducible show wpList _ _ _ ({ dst := _, op := Op.load 49 _, type := _, pos := _, after := _, guard := _ } :: _) _ _); refine wpList_load_row _ (ad.add (j * 16)) rfl ci agg_Inst HL.out HC.out ?_) | fail)
          refine (l8Copy_any _ ci _ hwx HRC.out.drew).mono ?_; rintro e v1 ⟨cs', rfl, hM, hb⟩
          have hl2 : cs'.length = 16 := hM.rep.length.trans (InstD.width _)
          have HL2 := Lib.hid hl2; clear hl2
          have HM := Lib.hid hM; clear hM
          have hb2 := below_drewL hb
          have ZB1 := Lib.hid (ZB.out.below hb2)
          have BW1 := Lib.hid (BW.out.trans (hb2.mono BW.out.size))
          have HZ := Lib.hid (show w.heap.size + 1 < wr.heap.size from ZB.out.lt); clear hb hb2
          go_wp2_with (first | ((with_reducible show wpList _ _ _ ({ dst := _, op := Op.store 49 _ _, type := _, pos := _, after := _, guard := _ } :: _) _ _); refine wpList_store_row _ (w.heap.size + 1) 49 0 cs' [] [.int .i64 0, .int .i64 0, .int .i64 0, .int .i64 0, .int .i64 0, .int .i64 0, .int .i64 0, .int .i64 0, .string ⟨#[]⟩, .string ⟨#[]⟩, .string ⟨#[]⟩, .int .i64 0, .slice none 0 0, .int .i64 0, .slice none 0 0, .bool false] [] _ rfl rfl (HL2.out ▸ agg_Inst) ZB1.out rfl rfl HL2.out.symm HM.out.rep.one ?_; intro v9 hzg0 hzg) | fail)
          have hzb : Blk v9 (w.heap.size + 1) 49 cs'.toArray := by simpa using hzg0
          obtain ⟨F, hnd, ho⟩ := HM.out
          have ho2 := ho.keep0 (base' := w.heap.size) (w' := v9) (fun b hb => by
            have h1 := ho.in b hb
            have h2 : wr.heap.size ≤ b := h1.1
            have h3 := HZ.out
            exact ⟨by omega, hzg.block b h1.2 (fun e => by injection e with e; omega)⟩)
          exact bodyPost_cell rfl ⟨w.heap.size + 1, 0, none⟩ rfl cs' agg_Inst HL2.out (blk_cells hzb) rfl ⟨_, rfl, ⟨F, hnd, ho2⟩, Below.grown BW1.out hzg BW1.out.size (fun k hk => by injection hk with hk; omega)⟩
        · have hS := HST.out (fun h => e2 (by injection h))
          have HS := Lib.hid hS; clear hS
          have e3 : (ys == xs') = false := by simpa using e2
          have e4 : (xs' == ys) = false := by simp only [beq_eq_false_iff_ne]; exact fun h => e2 h.symm
          clear e2
          go_wp2
          refine wp_region_x 6 [0, 1, 2, 3, 4, 5] (by kernel_rfl) (by kernel_rfl) ?_
          iterate 4 (refine wpX_quiet rfl (by kernel_rfl) rfl ?_; go_wp2; refine ⟨rfl, ?_⟩)
          refine wpX_quiet rfl (by kernel_rfl) rfl ?_; go_wp2_with (first | (refine wpList_load_row _ (ad.add (j * 16)) rfl [.int .i64 _, .int .i64 _] agg_Id rfl HCI.out ?_) | fail); refine ⟨rfl, ?_⟩
          refine wpX_quiet rfl (by kernel_rfl) rfl ?_; go_wp2_with (first | (refine wpList_load_row _ ⟨w.heap.size, 0, none⟩ rfl [.int .i64 _, .int .i64 _] agg_Id rfl (blk_cells SB.out) ?_) | fail); refine ⟨rfl, ?_⟩
          refine wpX_nil ?_; try simp only [List.drop_succ_cons, List.drop_zero]
          go_wp2
          exact ⟨⟨j + 1, by omega, by go_num, HS.out, SB.out.drew, ZB.out.drew, BW.out.drew⟩, by simp only [intOf]; omega⟩
      · have hS := HST.out (fun h => e1 (by injection h))
        have HS := Lib.hid hS; clear hS
        have e3 : (yr == xr) = false := by simpa using e1
        have e4 : (xr == yr) = false := by simp only [beq_eq_false_iff_ne]; exact fun h => e1 h.symm
        clear e1
        go_wp2
        refine wp_region_x 6 [0, 1, 2, 3, 4, 5] (by kernel_rfl) (by kernel_rfl) ?_
        iterate 4 (refine wpX_quiet rfl (by kernel_rfl) rfl ?_; go_wp2; refine ⟨rfl, ?_⟩)
        refine wpX_quiet rfl (by kernel_rfl) rfl ?_; go_wp2_with (first | (refine wpList_load_row _ (ad.add (j * 16)) rfl [.int .i64 _, .int .i64 _] agg_Id rfl HCI.out ?_) | fail); refine ⟨rfl, ?_⟩
        refine wpX_quiet rfl (by kernel_rfl) rfl ?_; go_wp2_with (first | (refine wpList_load_row _ ⟨w.heap.size, 0, none⟩ rfl [.int .i64 _, .int .i64 _] agg_Id rfl (blk_cells SB.out) ?_) | fail); refine ⟨rfl, ?_⟩
        refine wpX_nil ?_; try simp only [List.drop_succ_cons, List.drop_zero]
        go_wp2
        exact ⟨⟨j + 1, by omega, by go_num, HS.out, SB.out.drew, ZB.out.drew, BW.out.drew⟩, by simp only [intOf]; omega⟩
    · have hjn : j = n := by omega
      subst hjn
      have hRn := HNO.out (fun i hi => HA.out i hi (by have := HN.out; omega))
      subst hRn
      go_wp2_with (first
        | ((with_reducible show wpList _ _ _ ({ dst := _, op := Op.load 32 _, type := _, pos := _, after := _, guard := _ } :: _) _ _); refine wpList_load_row _ ⟨w.heap.size, 0, none⟩ rfl [.int .i64 xr, .int .i64 xs'] agg_Id rfl (blk_cells SB.out) ?_)
        | ((with_reducible show wpList _ _ _ ({ dst := _, op := Op.store 49 _ _, type := _, pos := _, after := _, guard := _ } :: _) _ _); refine wpList_store_row _ (w.heap.size + 1) 49 0 [.int .i64 xr, .int .i64 xs', .int .i64 (-1), .int .i64 (-1), .int .i64 0, .int .i64 0, .int .i64 0, .int .i64 0, .string (bs []), .string (bs []), .string (bs []), .int .i64 0, .slice none 0 0, .int .i64 0, .slice none 0 0, .bool false] [] [.int .i64 0, .int .i64 0, .int .i64 0, .int .i64 0, .int .i64 0, .int .i64 0, .int .i64 0, .int .i64 0, .string ⟨#[]⟩, .string ⟨#[]⟩, .string ⟨#[]⟩, .int .i64 0, .slice none 0 0, .int .i64 0, .slice none 0 0, .bool false] [] _ rfl rfl agg_Inst ZB.out rfl rfl rfl (by simp [Value.oneCell']) ?_; intro v9 hzb hzg)
        | fail)
      exact bodyPost_cell rfl ⟨w.heap.size + 1, 0, none⟩ rfl [.int .i64 xr, .int .i64 xs', .int .i64 (-1), .int .i64 (-1), .int .i64 0, .int .i64 0, .int .i64 0, .int .i64 0, .string (bs []), .string (bs []), .string (bs []), .int .i64 0, .slice none 0 0, .int .i64 0, .slice none 0 0, .bool false] agg_Inst rfl (blk_cells hzb) rfl ⟨_, rfl, newInst_mine _ _ _ _, Below.grown BW.out hzg BW.out.size (fun k hk => by injection hk with hk; omega)⟩

end Go.Proofs.Ytbdblfpepnoafaa
