/-
  The reference's l8Attrs and AttrsOf as the plain function fAttrsOf. Conditions: bounds on the sizes.
-/
import Derived.Test.YtbdblfpepnoafaaAttrs
namespace Go.Proofs.Ytbdblfpepnoafaa
open Go.RowKit


theorem blk_newAt' (w : World) (cs cs' : Array Value) (e g : Nat) (hg : g = w.heap.size) (hc : cs = cs') : Blk (w.alloc (.cells cs e)) g e cs' := by subst hg hc; exact blk_new _ _ _
theorem kept13 {v1 v2 : World} {o : Obj} {r : Option Nat} {a : Addr} {u : Value} (h : v1.cell? a = some u) (hg : (v1.alloc o).grownBy v2 r) (hr : r ≠ some a.block) : v2.cell? a = some u := by
  have hlt := World.block_lt_of_cell? _ _ h
  rw [World.cell?_of_block (hg.block _ (Nat.lt_of_lt_of_le hlt (by simp)) (fun e => hr e.symm))]
  exact (((Below.refl _ v1).alloc (Nat.le_refl _) o).cell hlt).trans h
theorem keptB {v1 v2 : World} {o : Obj} {r : Option Nat} {g e : Nat} {cs : Array Value} (h : Blk v1 g e cs) (hg : (v1.alloc o).grownBy v2 r) (hr : r ≠ some g) : Blk v2 g e cs :=
  (h.alloc o).keep (hg.block g (h.alloc o).lt (fun e => hr e.symm))
theorem own_nilAt (w : World) (base e size g : Nat) (hg : g = w.heap.size) (hb : base ≤ g) : (w.alloc (.cells #[] e)).ownsRow base e size (.slice (some ⟨g, 0, none⟩) 0 0) 0 [] := by subst hg; exact World.ownsRow_made w #[] 0 hb (by simp [maxLen]) (by simp)
theorem InstD.cmd_wt (x : InstD) : (x.cmd.c).wt ≤ (x.c).wt := by
  have e0 : (x.cmd.c).wt = (x.cmd.set.length + (x.cmd.name.length + (x.cmd.tag.length + (x.cmd.chunks.length + (cat strC x.cmd.chunks).wt + 0)))) := rfl
  have e1 : (x.c).wt = (x.cmd.set.length + (x.cmd.name.length + (x.cmd.tag.length + (x.cmd.chunks.length + (cat strC x.cmd.chunks).wt + (x.deps.length + (cat IdD.c x.deps).wt + 0))))) := rfl
  omega
theorem cmd_cells {B : Nat → Prop} {w w' : World} {x : InstD} {cs : List Value} {p : Addr} (h : Rep B w' x.c cs) (hc : ∀ f v, cs[f]? = some v → w.cell? (p.add f) = some v) :
    ∃ csx, csx.length = 8 ∧ Rep B w' x.cmd.c csx ∧ ∀ f v, csx[f]? = some v → w.cell? ((⟨p.block, p.off + 5, none⟩ : Addr).add f) = some v := by
  obtain ⟨A0, k0, A1, k1, rfl, s0, _⟩ := InstD.open h
  refine ⟨[.int .i64 x.cmd.kind, .int .i64 x.cmd.client, .int .i64 x.cmd.no, .string (bs x.cmd.set), .string (bs x.cmd.name), .string (bs x.cmd.tag), .int .i64 x.cmd.n, .slice A0 x.cmd.chunks.length k0], rfl, CmdD.shut s0, fun f v hv => ?_⟩
  have hlt := (List.getElem?_eq_some_iff.1 hv).1
  have h1 := hc (5 + f) v (by
    have : f = 0 ∨ f = 1 ∨ f = 2 ∨ f = 3 ∨ f = 4 ∨ f = 5 ∨ f = 6 ∨ f = 7 := by simp at hlt; omega
    rcases this with rfl | rfl | rfl | rfl | rfl | rfl | rfl | rfl <;> exact hv)
  rw [← add_of_add] at h1
  exact h1

set_option maxRecDepth 100000 in
set_option maxHeartbeats 4000000 in
theorem l8Attrs_any (xs : List InstD) (x : IdD) (c : CmdD) (A : Option Addr) (n k : Nat) (cs csc : List Value) (w : World) (hn : n = xs.length) (hwt : n + (cat InstD.c xs).wt ≤ 1048576) (hwc : c.c.wt ≤ 1048576) (hok : instsOkB xs = true) (h : Rep anyB w (.sl 49 16 n (cat InstD.c xs) .nil) [.slice A n k]) (h' : Rep anyB w x.c cs) (hc' : Rep anyB w c.c csc) :
    Calls Try.prog 113 #[.slice A n k, .agg cs.toArray, .agg csc.toArray] w fun e w' => ∃ A' c', e = .returned (.tuple #[.int .i64 (seqL x c xs + 1), .slice A' (depsL x c xs).length c']) ∧ w'.ownsRow w.heap.size 32 2 (.slice A' (depsL x c xs).length c') (depsL x c xs).length (idCells (depsL x c xs)) ∧ Below w.heap.size w w' := by
  have hCL : csc.length = 8 := hc'.length.trans (CmdD.width c)
  obtain rfl := IdD.open h'
  have HSEQ := Lib.hid (seqL_range hok x c)
  have HSX := Lib.hid (insts_seq hok)
  have HN := Lib.hid hn; clear hn
  have HR := Lib.hid h; clear h
  have HRC := Lib.hid hc'; clear hc'
  have HKP := Lib.hid (fun (j : Nat) (hj : j < xs.length) (hk : keepB x c xs[j] = true) => And.intro (depsL_yes hj hk) (seqL_yes hj hk))
  have HKN := Lib.hid (fun (j : Nat) (hj : j < xs.length) (hk : keepB x c xs[j] = false) => And.intro (depsL_no hj hk) (seqL_no hj hk))
  have HD0 := Lib.hid (depsL_len x c)
  have HFD := Lib.hid (show depsL x c (xs.take n) = depsL x c xs ∧ seqL x c (xs.take n) = seqL x c xs by rw [HN.out, List.take_length]; exact ⟨rfl, rfl⟩)
  have HS0 := Lib.hid (show seqL x c (xs.take 0) = 0 ∧ depsL x c (xs.take 0) = [] from ⟨rfl, rfl⟩)
  obtain ⟨D, hD⟩ : ∃ D : Nat → List IdD, D = fun j => depsL x c (xs.take j) := ⟨_, rfl⟩
  obtain ⟨S, hS⟩ : ∃ S : Nat → Int, S = fun j => seqL x c (xs.take j) := ⟨_, rfl⟩
  have HD := Lib.hid hD; clear hD
  have HS := Lib.hid hS; clear hS
  have hnb : n ≤ 1048576 := by omega
  have HWT := Lib.hid hwt; clear hwt
  have HWC := Lib.hid hwc; clear hwc h' hok
  obtain ⟨xr, xs'⟩ := x
  have SB := Lib.hid (show Blk ((w.alloc (.cells #[.int .i64 xr, .int .i64 xs'] 32)).alloc (.cells csc.toArray 33)) w.heap.size 32 [.int .i64 xr, .int .i64 xs'].toArray from (blk_new w _ _).alloc _)
  go_enter Try.func113, Try.ntmps113
  go_wp2_with fail
  go_loopw [8, 9, 10] (fun sv v i wr => ∃ j : Nat, j ≤ n ∧ i = .int .i64 (j : Int) ∧ sv = .int .i64 (S j + 1) ∧ wr.ownsRow (w.heap.size + 1 + 1) 32 2 v (D j).length (idCells (D j)) ∧ Blk wr w.heap.size 32 [.int .i64 xr, .int .i64 xs'].toArray ∧ Blk wr (w.heap.size + 1) 33 csc.toArray ∧ Below w.heap.size w wr) (fun _ _ i _ => n - (intOf i).toNat)
  case atStart =>
    have h1 : S 0 = 0 := by rw [HS.out]; exact HS0.out.1
    have h2 : D 0 = [] := by rw [HD.out]; exact HS0.out.2
    refine ⟨0, Nat.zero_le _, rfl, by rw [h1]; rfl, ?_, (SB.out.alloc _), ((blk_newAt' _ _ _ _ _ (by simp) rfl).alloc _), (by repeat' (first | with_reducible exact Below.refl _ _ | with_reducible exact BW.out | with_reducible refine Below.setCell ?_ ?_ _ | with_reducible refine Below.alloc ?_ ?_ _ | with_reducible refine Below.drew ?_ | (simp; done) | (simp; omega) | omega))⟩
    rw [h2]
    exact own_nilAt _ _ _ _ _ (by simp) (Nat.le_refl _)
  case round =>
    obtain ⟨j, hj, rfl, rfl, hown, hsb, hcb, hbel⟩ := hrel
    clear SB
    have HO := Lib.hid hown; clear hown
    have hsz := hbel.size
    by_cases hlt : j < n
    · have hjx : j < xs.length := by have := HN.out; omega
      obtain ⟨ad, ci, rfl, _, _, hrc, hl, hc⟩ := (HR.out.below hbel).elem InstD.width j hjx HN.out
      have hadw : ad.block < w.heap.size := by
        obtain ⟨ad', _, he, _, hlt', _⟩ := HR.out.elem InstD.width j hjx HN.out
        injection he with he
        rw [he]; exact hlt'
      have hcid := id_cells hrc hc
      obtain ⟨cmx, hcl, hcr, hcc⟩ := cmd_cells hrc hc
      obtain ⟨A1, k1, A2, k2, rfl, _⟩ := InstD.open hrc
      have h4 : wr.cell? ⟨(ad.add (j * 16)).block, (ad.add (j * 16)).off + 4, none⟩ = some (.int .i64 xs[j].status) := hc 4 _ rfl
      have h13 : wr.cell? ⟨(ad.add (j * 16)).block, (ad.add (j * 16)).off + 13, none⟩ = some (.int .i64 xs[j].seq) := hc 13 _ rfl
      have hkp := HKP.out j hjx
      have hkn := HKN.out j hjx
      have hq1 := HSX.out j hjx
      have hdl : (D j).length ≤ j := by rw [HD.out]; exact Nat.le_trans (HD0.out _) (by simp; omega)
      have hsr : 0 ≤ S j ∧ S j ≤ 60 := by rw [HS.out]; exact HSEQ.out j (by omega)
      have e1 : depsL ⟨xr, xs'⟩ c (xs.take j) = D j ∧ depsL ⟨xr, xs'⟩ c (xs.take (j + 1)) = D (j + 1) := by rw [HD.out]; exact ⟨rfl, rfl⟩
      have e2 : seqL ⟨xr, xs'⟩ c (xs.take j) = S j ∧ seqL ⟨xr, xs'⟩ c (xs.take (j + 1)) = S (j + 1) := by rw [HS.out]; exact ⟨rfl, rfl⟩
      rw [e1.1, e1.2, e2.1, e2.2] at hkp hkn
      have hwx : (xs[j].cmd.c).wt ≤ 1048576 := by
        have h1 := cat_wt_le (f := InstD.c) (List.getElem_mem hjx)
        have h2 := HWT.out
        have h3 := InstD.cmd_wt xs[j]
        omega
      clear hc hrc hl e1 e2
      generalize xs[j] = y at *
      obtain ⟨⟨yr, ys⟩, ybal, yvb, yst, ycmd, yseq, ydeps, ysame⟩ := y
      simp only at hcid hcr h4 h13 hkp hkn hq1 hwx
      have HKPj := Lib.hid hkp; clear hkp
      have HKNj := Lib.hid hkn; clear hkn
      have HCI := Lib.hid hcid; clear hcid
      have HCC := Lib.hid hcc; clear hcc
      have HCR := Lib.hid hcr; clear hcr
      generalize hDj : D j = Dj at HO HKPj HKNj hdl
      generalize hSj : S j = Sj at HKPj HKNj hsr ⊢

      by_cases e1 : yr = xr ∧ ys = xs'
      · obtain ⟨rfl, rfl⟩ := e1
        go_wp2
        refine wp_region_g 25 (.one 0 (.one 1 (.one 2 (.one 3 (.one 4 (.one 5 (.act 6 (.one 7 (.one 8 (.one 9 (.one 10 (.one 11 (.one 12 (.one 13 (.one 14 (.one 15 (.one 16 (.one 17 (.one 18 (.one 19 (.one 20 (.one 21 (.one 22 (.one 23 (.one 24 .leaf))))))))))))))))))))))))) (by kernel_rfl) (by kernel_rfl) ?_
        iterate 4 (refine wpG_quiet rfl (by kernel_rfl) rfl ?_; go_wp2; refine ⟨rfl, ?_⟩)
        refine wpG_quiet rfl (by kernel_rfl) rfl ?_; go_wp2_with (first | (refine wpList_load_row _ (ad.add (j * 16)) rfl [.int .i64 _, .int .i64 _] agg_Id rfl HCI.out ?_) | fail); refine ⟨rfl, ?_⟩
        refine wpG_quiet rfl (by kernel_rfl) rfl ?_; go_wp2_with (first | (refine wpList_load_row _ ⟨w.heap.size, 0, none⟩ rfl [.int .i64 _, .int .i64 _] agg_Id rfl (blk_cells hsb) ?_) | fail); refine ⟨rfl, ?_⟩
        refine wpG_act rfl ?_; go_wp2
        refine ⟨Ext.refl _, ?_⟩
        iterate 1 (refine wpG_quiet rfl (by kernel_rfl) rfl ?_; go_wp2; refine ⟨rfl, ?_⟩)
        iterate 6 (refine wpG_skip rfl rfl (by kernel_rfl) ?_; simp only [List.setIfInBounds_toArray, List.set_cons_succ, List.set_cons_zero])
        iterate 2 (refine wpG_quiet rfl (by kernel_rfl) rfl ?_; go_wp2; refine ⟨rfl, ?_⟩)
        iterate 8 (refine wpG_skip rfl rfl (by kernel_rfl) ?_; simp only [List.setIfInBounds_toArray, List.set_cons_succ, List.set_cons_zero])
        iterate 1 (refine wpG_quiet rfl (by kernel_rfl) rfl ?_; go_wp2; refine ⟨rfl, ?_⟩)
        refine wpG_nil ?_; try simp only [List.drop_succ_cons, List.drop_zero]
        have hk := HKNj.out (by simp [keepB])
        have hkS := Lib.hid hk; clear hk
        go_wp2
        exact ⟨⟨j + 1, by omega, by go_num, by rw [hkS.out.2], by rw [hkS.out.1]; exact HO.out.drew, hsb.drew, hcb.drew, hbel.drew⟩, by simp only [intOf]; omega⟩
      have hne : ¬ (IdD.mk yr ys = IdD.mk xr xs') := fun h => e1 ⟨by injection h, by injection h⟩
      have hd : yr ≠ xr ∨ (yr = xr ∧ ys ≠ xs') := by by_cases h : yr = xr; exact .inr ⟨h, fun h2 => e1 ⟨h, h2⟩⟩; exact .inl h
      clear e1
      by_cases e3 : yst = 0
      · have e3b : (yst == 0) = true := by simpa using e3
        go_wp2
        refine wp_region_g 25 (.one 0 (.one 1 (.one 2 (.one 3 (.one 4 (.one 5 (.act 6 (.one 7 (.one 8 (.one 9 (.one 10 (.one 11 (.one 12 (.one 13 (.one 14 (.one 15 (.one 16 (.one 17 (.one 18 (.one 19 (.one 20 (.one 21 (.one 22 (.one 23 (.one 24 .leaf))))))))))))))))))))))))) (by kernel_rfl) (by kernel_rfl) ?_
        iterate 4 (refine wpG_quiet rfl (by kernel_rfl) rfl ?_; go_wp2; refine ⟨rfl, ?_⟩)
        refine wpG_quiet rfl (by kernel_rfl) rfl ?_; go_wp2_with (first | (refine wpList_load_row _ (ad.add (j * 16)) rfl [.int .i64 _, .int .i64 _] agg_Id rfl HCI.out ?_) | fail); refine ⟨rfl, ?_⟩
        refine wpG_quiet rfl (by kernel_rfl) rfl ?_; go_wp2_with (first | (refine wpList_load_row _ ⟨w.heap.size, 0, none⟩ rfl [.int .i64 _, .int .i64 _] agg_Id rfl (blk_cells hsb) ?_) | fail); refine ⟨rfl, ?_⟩
        refine wpG_act rfl ?_; go_wp2
        all_goals
          refine ⟨Ext.refl _, ?_⟩
          iterate 1 (refine wpG_quiet rfl (by kernel_rfl) rfl ?_; go_wp2; refine ⟨rfl, ?_⟩)
          iterate 6 (refine wpG_quiet rfl (by kernel_rfl) rfl ?_; go_wp2; refine ⟨rfl, ?_⟩)
          iterate 2 (refine wpG_quiet rfl (by kernel_rfl) rfl ?_; go_wp2; refine ⟨rfl, ?_⟩)
          iterate 8 (refine wpG_skip rfl rfl (by kernel_rfl) ?_; simp only [List.setIfInBounds_toArray, List.set_cons_succ, List.set_cons_zero])
          iterate 1 (refine wpG_quiet rfl (by kernel_rfl) rfl ?_; go_wp2; refine ⟨rfl, ?_⟩)
          refine wpG_nil ?_; try simp only [List.drop_succ_cons, List.drop_zero]
          have hk := HKNj.out (by simp [keepB, e3])
          have hkS := Lib.hid hk; clear hk
          go_wp2
          exact ⟨⟨j + 1, by omega, by go_num, by rw [hkS.out.2], by rw [hkS.out.1]; exact HO.out.drew, hsb.drew, hcb.drew, hbel.drew⟩, by simp only [intOf]; omega⟩
      · have e3b : (yst == 0) = false := by simpa using e3
        cases hcl2 : clashB c ycmd
        · skip
          go_wp2
          refine wp_region_g 25 (.one 0 (.one 1 (.one 2 (.one 3 (.one 4 (.one 5 (.act 6 (.one 7 (.one 8 (.one 9 (.one 10 (.one 11 (.one 12 (.one 13 (.one 14 (.one 15 (.one 16 (.one 17 (.one 18 (.one 19 (.one 20 (.one 21 (.one 22 (.one 23 (.one 24 .leaf))))))))))))))))))))))))) (by kernel_rfl) (by kernel_rfl) ?_
          iterate 4 (refine wpG_quiet rfl (by kernel_rfl) rfl ?_; go_wp2; refine ⟨rfl, ?_⟩)
          refine wpG_quiet rfl (by kernel_rfl) rfl ?_; go_wp2_with (first | (refine wpList_load_row _ (ad.add (j * 16)) rfl [.int .i64 _, .int .i64 _] agg_Id rfl HCI.out ?_) | fail); refine ⟨rfl, ?_⟩
          refine wpG_quiet rfl (by kernel_rfl) rfl ?_; go_wp2_with (first | (refine wpList_load_row _ ⟨w.heap.size, 0, none⟩ rfl [.int .i64 _, .int .i64 _] agg_Id rfl (blk_cells hsb) ?_) | fail); refine ⟨rfl, ?_⟩
          refine wpG_act rfl ?_; go_wp2
          all_goals
            refine ⟨Ext.refl _, ?_⟩
            iterate 1 (refine wpG_quiet rfl (by kernel_rfl) rfl ?_; go_wp2; refine ⟨rfl, ?_⟩)
            iterate 6 (refine wpG_quiet rfl (by kernel_rfl) rfl ?_; go_wp2; refine ⟨rfl, ?_⟩)
            iterate 2 (refine wpG_quiet rfl (by kernel_rfl) rfl ?_; go_wp2; refine ⟨rfl, ?_⟩)
            refine wpG_quiet rfl (by kernel_rfl) rfl ?_; go_wp2_with (first | (refine wpList_load_row_g _ (by first | rfl | kernel_rfl) ⟨w.heap.size + 1, 0, none⟩ rfl csc agg_Cmd hCL (blk_cells hcb) ?_) | fail); refine ⟨rfl, ?_⟩
            iterate 4 (refine wpG_quiet rfl (by kernel_rfl) rfl ?_; go_wp2; refine ⟨rfl, ?_⟩)
            refine wpG_quiet rfl (by kernel_rfl) rfl ?_; go_wp2_with (first | (refine wpList_load_row_g _ (by first | rfl | kernel_rfl) ⟨(ad.add (j * 16)).block, (ad.add (j * 16)).off + 5, none⟩ rfl cmx agg_Cmd hcl HCC.out ?_) | fail); refine ⟨rfl, ?_⟩
            refine wpG_actor rfl (by kernel_rfl) ?_; go_wp2_with fail
            refine (sClash_any c ycmd csc cmx _ HWC.out hwx ((HRC.out.below hbel).drew) HCR.out.drew).mono ?_; rintro e v1 ⟨rfl, hb1⟩
            rw [hcl2]
            have HB1 := Lib.hid hb1; clear hb1
            go_wp2; refine ⟨Ext.of_below HB1.out, ?_⟩
            iterate 1 (refine wpG_quiet rfl (by kernel_rfl) rfl ?_; go_wp2; refine ⟨rfl, ?_⟩)
            iterate 1 (refine wpG_quiet rfl (by kernel_rfl) rfl ?_; go_wp2; refine ⟨rfl, ?_⟩)
            refine wpG_nil ?_; try simp only [List.drop_succ_cons, List.drop_zero]
            have hk := HKNj.out (by simp [keepB, hcl2])
            have hkS := Lib.hid hk; clear hk
            have hO1 := ownsRow_keep (base' := w.heap.size + 1 + 1) HO.out (w' := v1) (fun b hb => ⟨(HO.out.lt b hb).1, HB1.out.block b (HO.out.lt b hb).2⟩)
            have hsb1 := hsb.drew.below HB1.out; have hcb1 := hcb.drew.below HB1.out; have hbel1 := hbel.drew.trans (HB1.out.mono hbel.drew.size)
            go_wp2
            exact ⟨⟨j + 1, by omega, by go_num, by rw [hkS.out.2], by rw [hkS.out.1]; exact hO1, hsb1, hcb1, hbel1⟩, by simp only [intOf]; omega⟩
        · skip
          go_wp2
          refine wp_region_g 25 (.one 0 (.one 1 (.one 2 (.one 3 (.one 4 (.one 5 (.act 6 (.one 7 (.one 8 (.one 9 (.one 10 (.one 11 (.one 12 (.one 13 (.one 14 (.one 15 (.one 16 (.one 17 (.one 18 (.one 19 (.one 20 (.one 21 (.one 22 (.one 23 (.one 24 .leaf))))))))))))))))))))))))) (by kernel_rfl) (by kernel_rfl) ?_
          iterate 4 (refine wpG_quiet rfl (by kernel_rfl) rfl ?_; go_wp2; refine ⟨rfl, ?_⟩)
          refine wpG_quiet rfl (by kernel_rfl) rfl ?_; go_wp2_with (first | (refine wpList_load_row _ (ad.add (j * 16)) rfl [.int .i64 _, .int .i64 _] agg_Id rfl HCI.out ?_) | fail); refine ⟨rfl, ?_⟩
          refine wpG_quiet rfl (by kernel_rfl) rfl ?_; go_wp2_with (first | (refine wpList_load_row _ ⟨w.heap.size, 0, none⟩ rfl [.int .i64 _, .int .i64 _] agg_Id rfl (blk_cells hsb) ?_) | fail); refine ⟨rfl, ?_⟩
          refine wpG_act rfl ?_; go_wp2
          all_goals
            refine ⟨Ext.refl _, ?_⟩
            iterate 1 (refine wpG_quiet rfl (by kernel_rfl) rfl ?_; go_wp2; refine ⟨rfl, ?_⟩)
            iterate 6 (refine wpG_quiet rfl (by kernel_rfl) rfl ?_; go_wp2; refine ⟨rfl, ?_⟩)
            iterate 2 (refine wpG_quiet rfl (by kernel_rfl) rfl ?_; go_wp2; refine ⟨rfl, ?_⟩)
            refine wpG_quiet rfl (by kernel_rfl) rfl ?_; go_wp2_with (first | (refine wpList_load_row_g _ (by first | rfl | kernel_rfl) ⟨w.heap.size + 1, 0, none⟩ rfl csc agg_Cmd hCL (blk_cells hcb) ?_) | fail); refine ⟨rfl, ?_⟩
            iterate 4 (refine wpG_quiet rfl (by kernel_rfl) rfl ?_; go_wp2; refine ⟨rfl, ?_⟩)
            refine wpG_quiet rfl (by kernel_rfl) rfl ?_; go_wp2_with (first | (refine wpList_load_row_g _ (by first | rfl | kernel_rfl) ⟨(ad.add (j * 16)).block, (ad.add (j * 16)).off + 5, none⟩ rfl cmx agg_Cmd hcl HCC.out ?_) | fail); refine ⟨rfl, ?_⟩
            refine wpG_actor rfl (by kernel_rfl) ?_; go_wp2_with fail
            refine (sClash_any c ycmd csc cmx _ HWC.out hwx ((HRC.out.below hbel).drew) HCR.out.drew).mono ?_; rintro e v1 ⟨rfl, hb1⟩
            rw [hcl2]
            have HB1 := Lib.hid hb1; clear hb1
            go_wp2; refine ⟨Ext.of_below HB1.out, ?_⟩
            iterate 1 (refine wpG_quiet rfl (by kernel_rfl) rfl ?_; go_wp2; refine ⟨rfl, ?_⟩)
            iterate 1 (refine wpG_quiet rfl (by kernel_rfl) rfl ?_; go_wp2; refine ⟨rfl, ?_⟩)
            refine wpG_nil ?_; try simp only [List.drop_succ_cons, List.drop_zero]
            have hk := HKPj.out (by simp [keepB, hcl2, e3, hne])
            have hkS := Lib.hid hk; clear hk
            have hO1 := ownsRow_keep (base' := w.heap.size + 1 + 1) HO.out (w' := v1) (fun b hb => ⟨(HO.out.lt b hb).1, HB1.out.block b (HO.out.lt b hb).2⟩)
            have hsb1 := hsb.drew.below HB1.out; have hcb1 := hcb.drew.below HB1.out; have hbel1 := hbel.drew.trans (HB1.out.mono hbel.drew.size)
            have HO1 := Lib.hid hO1; clear hO1
            have hsz1 := hbel1.size; have hlt1 := hcb1.lt
            have hci1 : ∀ f v, [Value.int .i64 yr, Value.int .i64 ys][f]? = some v → v1.cell? ((ad.add (j * 16)).add f) = some v := fun f v hv => by have h0 := HCI.out f v hv; exact (HB1.out.cell (World.block_lt_of_cell? wr.drew _ h0)).trans h0
            have h13' : v1.cell? ⟨(ad.add (j * 16)).block, (ad.add (j * 16)).off + 13, none⟩ = some (.int .i64 yseq) := (HB1.out.cell (World.block_lt_of_cell? wr.drew _ h13)).trans h13
            go_wp2_with (first | ((with_reducible show wpList _ _ _ ({ dst := _, op := Op.load 32 _, type := _, pos := _, after := _, guard := _ } :: _) _ _); refine wpList_load_row _ (ad.add (j * 16)) rfl [.int .i64 yr, .int .i64 ys] agg_Id rfl hci1 ?_) | (at_builtin; refine wpList_app E_Id _ rfl (.tmp 43) (.tmp 49) rfl (w.heap.size + 1 + 1) _ Dj.length _ rfl (HO1.out.alloc _) _ _ _ _ rfl (Reads.new (e := 32) rfl) (by intro u hu; simp at hu; rcases hu with rfl | rfl <;> rfl) (by omega) (by simp; omega) ?_; intro v' v2 hown2 hgr2 hat2; have h13b : v2.cell? ⟨(ad.add (j * 16)).block, (ad.add (j * 16)).off + 13, none⟩ = some (.int .i64 yseq) := kept13 h13' hgr2 (fun e => by have h9 := (HO1.out.lt _ e).1; rw [block_of_add] at h9; omega); have HOWN2 := Lib.hid hown2; clear hown2; have HGR2 := Lib.hid hgr2; clear hgr2 hat2) | fail)
            all_goals
              refine ⟨⟨j + 1, by omega, by go_num, by rw [hkS.out.2]; first | rfl | (congr 1; omega), ?_, keptB hsb1 HGR2.out (fun e => by have h9 := (HO1.out.lt _ e).1; omega), keptB hcb1 HGR2.out (fun e => by have h9 := (HO1.out.lt _ e).1; omega), Below.grown (hbel1.alloc hsz1 _) HGR2.out (Nat.le_trans hsz1 (by simp)) (fun k hk => by have h9 := (HO1.out.lt k hk).1; omega)⟩, by simp only [intOf]; omega⟩
              rw [hkS.out.1, List.length_append, idCells_app]
              first | exact HOWN2.out | (have e : yr = xr := by assumption); rw [e]; exact HOWN2.out
    · have hjn : j = n := by omega
      subst hjn
      have h1 : S j = seqL ⟨xr, xs'⟩ c xs := by rw [HS.out]; exact HFD.out.2
      have h2 : D j = depsL ⟨xr, xs'⟩ c xs := by rw [HD.out]; exact HFD.out.1
      rw [h1]
      have hO := HO.out
      rw [h2] at hO
      clear h1 h2
      obtain ⟨Av, cv, rfl, _⟩ := SlR.of_own hO
      have HO2 := Lib.hid hO; clear hO HO
      go_wp2
      go_ret2
      exact ⟨Av, cv, ret_eq (by first | rfl | simp), ownsRow_keep (base' := w.heap.size) HO2.out (fun b hb => ⟨by have := (HO2.out.lt b hb).1; omega, rfl⟩), hbel⟩
theorem mine_ids {w : World} {base n : Nat} {A : Option Addr} {c : Nat} {l : List IdD} (h : w.ownsRow base 32 2 (.slice A n c) n (idCells l)) (hn : n = l.length) : Mine w base (.sl 32 2 n (cat IdD.c l) .nil) [.slice A n c] := by
  have hw : (cat IdD.c l).width = n * 2 := by rw [hn, ← idCells_length, (own_ids w base l).length]
  exact ⟨_, nodup_own _, Own.sl1.2 ⟨idCells l, [], (List.append_nil _).symm, hw, h, own_ids w base l⟩⟩
theorem fAttrs_yes {xs : List InstD} {x : IdD} {c : CmdD} (h : instsOkB xs = true) : fAttrsOf xs x c = (seqL x c xs + 1, depsL x c xs) := if_pos h
theorem fAttrs_no {xs : List InstD} {x : IdD} {c : CmdD} (h : instsOkB xs = false) : fAttrsOf xs x c = (0, []) := if_neg (by simp [h])
set_option maxRecDepth 100000 in
set_option maxHeartbeats 1000000 in
theorem sAttrsOf_any (xs : List InstD) (x : IdD) (c : CmdD) (A : Option Addr) (n k : Nat) (cs csc : List Value) (w : World) (hn : n = xs.length) (hwt : n + (cat InstD.c xs).wt ≤ 1048576) (_ : x.c.wt ≤ 1048576) (hwc : c.c.wt ≤ 1048576) (h : Rep anyB w (.sl 49 16 n (cat InstD.c xs) .nil) [.slice A n k]) (h' : Rep anyB w x.c cs) (hc' : Rep anyB w c.c csc) :
    Calls Try.prog 48 #[.slice A n k, .agg cs.toArray, .agg csc.toArray] w fun e w' => ∃ A' m c', e = .returned (.tuple #[.int .i64 (fAttrsOf xs x c).1, .slice A' m c']) ∧ m = (fAttrsOf xs x c).2.length ∧ Mine w' w.heap.size (.sl 32 2 m (cat IdD.c (fAttrsOf xs x c).2) .nil) [.slice A' m c'] ∧ Below w.heap.size w w' := by
  have hCL : csc.length = 8 := hc'.length.trans (CmdD.width c)
  have hIL : cs.length = 2 := h'.length.trans (IdD.width x)
  have SB := Lib.hid (show Blk ((w.alloc (.cells cs.toArray 32)).alloc (.cells csc.toArray 33)) w.heap.size 32 cs.toArray from (blk_new w _ _).alloc _)
  have CB := Lib.hid (show Blk ((w.alloc (.cells cs.toArray 32)).alloc (.cells csc.toArray 33)) (w.heap.size + 1) 33 csc.toArray from blk_newAt' _ _ _ _ _ (by simp) rfl)
  have BL := Lib.hid (show Below w.heap.size w ((w.alloc (.cells cs.toArray 32)).alloc (.cells csc.toArray 33)) from (by repeat' (first | with_reducible exact Below.refl _ _ | with_reducible exact BW.out | with_reducible refine Below.setCell ?_ ?_ _ | with_reducible refine Below.alloc ?_ ?_ _ | with_reducible refine Below.drew ?_ | (simp; done) | (simp; omega) | omega)))
  obtain ⟨U, hU⟩ : ∃ U, U = fAttrsOf xs x c := ⟨_, rfl⟩
  rw [← hU]
  have HY := Lib.hid (fun hok => hU.trans (@fAttrs_yes xs x c hok))
  have HNO := Lib.hid (fun hok => hU.trans (@fAttrs_no xs x c hok))
  clear hU
  have HR := Lib.hid h
  have HI := Lib.hid h'
  have HC := Lib.hid hc'
  have HN := Lib.hid hn
  clear h h' hc' hn
  go_enter Try.func48, Try.ntmps48
  go_wp2_with fail
  refine (sInstsOk_any xs A n k _ HN.out hwt (HR.out.below BL.out)).mono ?_
  rintro e v1 ⟨rfl, hb1⟩
  have SB1 := Lib.hid (SB.out.below hb1)
  have CB1 := Lib.hid (CB.out.below hb1)
  have BL1 := Lib.hid (BL.out.trans (hb1.mono BL.out.size))
  clear hb1 SB CB BL
  cases hok : instsOkB xs
  · have HF := Lib.hid (HNO.out hok)
    have hsz := BL1.out.size
    go_wp2
    go_ret2
    rw [HF.out]
    exact ⟨_, 0, _, ret_eq (by first | rfl | simp), rfl, mine_ids (l := []) (own_nilAt v1 _ _ _ _ rfl hsz) rfl, BL1.out.alloc hsz _⟩
  · have HF := Lib.hid (HY.out hok)
    have HOK := Lib.hid hok; clear hok
    go_wp2_with (first
      | ((with_reducible show wpList _ _ _ ({ dst := _, op := Op.load 32 _, type := _, pos := _, after := _, guard := _ } :: _) _ _); refine wpList_load_row _ ⟨w.heap.size, 0, none⟩ rfl cs agg_Id hIL (blk_cells SB1.out) ?_)
      | ((with_reducible show wpList _ _ _ ({ dst := _, op := Op.load 33 _, type := _, pos := _, after := _, guard := _ } :: _) _ _); refine wpList_load_row _ ⟨w.heap.size + 1, 0, none⟩ rfl csc agg_Cmd hCL (blk_cells CB1.out) ?_)
      | fail)
    refine (l8Attrs_any xs x c A n k cs csc _ HN.out hwt hwc HOK.out (HR.out.below BL1.out) (HI.out.below BL1.out) (HC.out.below BL1.out)).mono ?_
    rintro e v2 ⟨A', c', rfl, hO, hb2⟩
    have HO := Lib.hid (mine_ids (ownsRow_keep (base' := w.heap.size) hO (fun b hb => ⟨Nat.le_trans BL1.out.size (hO.lt b hb).1, rfl⟩)) rfl); clear hO
    have BL2 := Lib.hid (BL1.out.trans (hb2.mono BL1.out.size)); clear hb2
    go_wp2
    go_ret2
    rw [HF.out]
    exact ⟨A', _, c', ret_eq (by first | rfl | simp), rfl, HO.out, BL2.out⟩

end Go.Proofs.Ytbdblfpepnoafaa
