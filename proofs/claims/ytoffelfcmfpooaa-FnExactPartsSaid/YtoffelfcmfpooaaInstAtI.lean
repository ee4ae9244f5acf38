/-
  An instance by its Id: impl.InstAt; how great what is found may be. Conditions: a bound on the sizes.
-/
import Derived.Test.YtoffelfcmfpooaaInstF
namespace Go.Proofs.Ytoffelfcmfpooaa
open Go.RowKit

theorem cts_two : ∀ xs : List IdD, cts IdD.cnt xs = 2 * xs.length
  | [] => rfl
  | x :: xs => by rw [cts, cts_two xs, List.length_cons]; show 1 + 1 + _ = _; omega
theorem cts_ones : ∀ xs : List (List UInt8), cts (fun _ => 1) xs = xs.length
  | [] => rfl
  | x :: xs => by rw [cts, cts_ones xs, List.length_cons]; omega
theorem InstD.wt_eq (x : InstD) : x.c.wt = (x.cmd.set.length + (x.cmd.name.length + (x.cmd.tag.length + (x.cmd.chunks.length + (cat strC x.cmd.chunks).wt + (x.deps.length + (cat IdD.c x.deps).wt + 0))))) := rfl
theorem InstD.cntT_le (x : InstD) : x.cntT ≤ 2 * x.c.wt := by
  have h1 : x.cntT = cts (fun _ => 1) x.cmd.chunks + cts IdD.cnt x.deps := by simp [InstD.cntT, CmdD.cntT]
  rw [h1, cts_two, cts_ones, InstD.wt_eq]
  omega
theorem InstD.cnt_le (x : InstD) : x.cnt ≤ 20 + 2 * x.c.wt := by
  have h1 : x.cnt = IdD.cnt x.id + 1 + 1 + 1 + CmdD.cnt x.cmd + 1 + cts IdD.cnt x.deps + 1 := rfl
  have h2 : CmdD.cnt x.cmd = 1 + 1 + 1 + 1 + 1 + 1 + 1 + cts (fun _ => 1) x.cmd.chunks := rfl
  have h3 : IdD.cnt x.id = 2 := rfl
  rw [h1, h2, h3, cts_two, cts_ones, InstD.wt_eq]
  omega
theorem InstD.cts_le : ∀ xs : List InstD, cts InstD.cnt xs ≤ 20 * xs.length + 2 * (cat InstD.c xs).wt
  | [] => by simp [cts]
  | x :: xs => by
    have := InstD.cts_le xs
    have := x.cnt_le
    rw [cts, cat_cons, Cs.wt_app, List.length_cons]
    omega
theorem bInstAt (xs : List InstD) (x : IdD) (h : xs.length + (cat InstD.c xs).wt ≤ 1048576) (_ : x.c.wt ≤ 1048576) : (fInstAt xs x).c.wt ≤ 4611686018427387 ∧ (fInstAt xs x).cntT ≤ 4611686018427387 := by
  have key : (fInstAt xs x).c.wt ≤ 1048576 := by
    unfold fInstAt
    cases hf : xs.find? (fun y => decide (y.id = x)) with
    | none => exact Nat.zero_le _
    | some y =>
      have hm := List.mem_of_find?_eq_some hf
      have := cat_wt_le (f := InstD.c) hm
      show y.c.wt ≤ _
      omega
  have := (fInstAt xs x).cntT_le
  omega

set_option maxRecDepth 100000 in
set_option maxHeartbeats 2000000 in
theorem iInstAt_any (xs : List InstD) (x : IdD) (A : Option Addr) (n c : Nat) (cs : List Value) (w : World) (hn : n = xs.length) (hwt : n + (cat InstD.c xs).wt ≤ 1048576) (_ : x.c.wt ≤ 1048576) (h : Rep anyB w (.sl 40 16 n (cat InstD.c xs) .nil) [.slice A n c]) (h' : Rep anyB w x.c cs) :
    Calls Try.prog 83 #[.slice A n c, .agg cs.toArray] w fun e w' => ∃ cs', e = .returned (.agg cs'.toArray) ∧ Mine w' w.heap.size (fInstAt xs x).c cs' ∧ Below w.heap.size w w' := by
  have HN := Lib.hid hn; clear hn
  have HR := Lib.hid h; clear h
  have HI := Lib.hid h'
  obtain rfl := IdD.open h'
  clear h'
  obtain ⟨R, hR⟩ : ∃ R, R = fInstAt xs x := ⟨_, rfl⟩
  rw [← hR]
  have hno := @instAt_no xs x
  rw [← hR] at hno
  have hye := fun j hj h he => (hR.trans (@instAt_yes xs x j hj h he))
  have HNO := Lib.hid hno; clear hno
  have HYE := Lib.hid hye; clear hye hR
  obtain ⟨xr, xs'⟩ := x
  simp only [] at HNO HYE HI ⊢
  have hnb : n ≤ 1048576 := by omega
  have HWT := Lib.hid hwt; clear hwt
  go_enter Try.func83, Try.ntmps83
  go_wp2_with fail
  refine (instAtI_any xs ⟨xr, xs'⟩ A n c _ _ HN.out hnb (HR.out.below (by repeat' (first | with_reducible exact Below.refl _ _ | with_reducible exact BW.out | with_reducible refine Below.setCell ?_ ?_ _ | with_reducible refine Below.alloc ?_ ?_ _ | with_reducible refine Below.drew ?_ | (simp; done) | (simp; omega) | omega))) (HI.out.below (by repeat' (first | with_reducible exact Below.refl _ _ | with_reducible exact BW.out | with_reducible refine Below.setCell ?_ ?_ _ | with_reducible refine Below.alloc ?_ ?_ _ | with_reducible refine Below.drew ?_ | (simp; done) | (simp; omega) | omega)))).mono ?_; rintro e v1 ⟨q, rfl, hq, hb⟩
  have SB := Lib.hid (Blk.below (blk2_0 _ _ _ _) hb)
  have ZB := Lib.hid (Blk.below (blk2_1 _ _ _ _) hb)
  have BW := Lib.hid (show Below w.heap.size w v1 from Below.trans (by repeat' (first | with_reducible exact Below.refl _ _ | with_reducible exact BW.out | with_reducible refine Below.setCell ?_ ?_ _ | with_reducible refine Below.alloc ?_ ?_ _ | with_reducible refine Below.drew ?_ | (simp; done) | (simp; omega) | omega)) (hb.mono (by first | (simp; done) | (simp; omega) | omega))); clear hb
  rcases hq with ⟨j, hjx, rfl, he, hall⟩ | ⟨rfl, hall⟩
  · have hRy := HYE.out j hjx hall he
    clear hall he HNO HYE
    obtain ⟨ad, ci, rfl, _, _, hrc, hl, hc⟩ := (HR.out.below BW.out).elem InstD.width j hjx HN.out
    have hwx : (xs[j].c).wt ≤ 1048576 := by have := cat_wt_le (f := InstD.c) (List.getElem_mem hjx); have := HWT.out; omega
    have hjn : j < n := by have := HN.out; omega
    rw [← hRy] at hwx hrc
    clear hRy
    have HL := Lib.hid hl; clear hl
    have HC := Lib.hid hc; clear hc
    have HRC := Lib.hid hrc; clear hrc
    go_wp2_with (first | ((with_reducible show wpList _ _ _ ({ dst := _, op := Op.load 40 _, type := _, pos := _, after := _, guard := _ } :: _) _ _); refine wpList_load_row _ (ad.add (j * 16)) rfl ci agg_Inst HL.out HC.out ?_) | fail)
    refine (copyInst_any _ ci _ hwx HRC.out).mono ?_; rintro e v2 ⟨cs', rfl, hM, hb⟩
    have HL2 := Lib.hid (show cs'.length = 16 from hM.rep.length.trans (InstD.width _))
    have HM := Lib.hid hM; clear hM
    have ZB1 := Lib.hid (ZB.out.below hb)
    have BW1 := Lib.hid (BW.out.trans (hb.mono BW.out.size))
    have HZ := Lib.hid (show w.heap.size + 1 < v1.heap.size from ZB.out.lt); clear hb
    go_wp2_with (first | ((with_reducible show wpList _ _ _ ({ dst := _, op := Op.store 40 _ _, type := _, pos := _, after := _, guard := _ } :: _) _ _); refine wpList_store_row _ (w.heap.size + 1) 40 0 cs' [] [.int .i64 0, .int .i64 0, .int .i64 0, .int .i64 0, .int .i64 0, .int .i64 0, .int .i64 0, .int .i64 0, .string ⟨#[]⟩, .string ⟨#[]⟩, .string ⟨#[]⟩, .int .i64 0, .slice none 0 0, .int .i64 0, .slice none 0 0, .bool false] [] _ rfl rfl (HL2.out ▸ agg_Inst) ZB1.out rfl rfl HL2.out.symm HM.out.rep.one ?_; intro v9 hzg0 hzg) | fail)
    have hzb : Blk v9 (w.heap.size + 1) 40 cs'.toArray := by simpa using hzg0
    obtain ⟨F, hnd, ho⟩ := HM.out
    have ho2 := ho.keep0 (base' := w.heap.size) (w' := v9) (fun b hb => by
      have h1 := ho.in b hb
      have h3 := HZ.out
      exact ⟨by omega, hzg.block b h1.2 (fun e => by injection e with e; omega)⟩)
    exact bodyPost_cell rfl ⟨w.heap.size + 1, 0, none⟩ rfl cs' agg_Inst HL2.out (blk_cells hzb) rfl ⟨_, rfl, ⟨F, hnd, ho2⟩, Below.grown BW1.out hzg BW1.out.size (fun k hk => by injection hk with hk; omega)⟩
  · have hRn := HNO.out hall
    subst hRn
    clear hall HNO HYE
    go_wp2_with (first
      | ((with_reducible show wpList _ _ _ ({ dst := _, op := Op.load 36 _, type := _, pos := _, after := _, guard := _ } :: _) _ _); refine wpList_load_row _ ⟨w.heap.size, 0, none⟩ rfl [.int .i64 xr, .int .i64 xs'] agg_Id rfl (blk_cells SB.out) ?_)
      | ((with_reducible show wpList _ _ _ ({ dst := _, op := Op.store 40 _ _, type := _, pos := _, after := _, guard := _ } :: _) _ _); refine wpList_store_row _ (w.heap.size + 1) 40 0 [.int .i64 xr, .int .i64 xs', .int .i64 (-1), .int .i64 (-1), .int .i64 0, .int .i64 0, .int .i64 0, .int .i64 0, .string (bs []), .string (bs []), .string (bs []), .int .i64 0, .slice none 0 0, .int .i64 0, .slice none 0 0, .bool false] [] [.int .i64 0, .int .i64 0, .int .i64 0, .int .i64 0, .int .i64 0, .int .i64 0, .int .i64 0, .int .i64 0, .string ⟨#[]⟩, .string ⟨#[]⟩, .string ⟨#[]⟩, .int .i64 0, .slice none 0 0, .int .i64 0, .slice none 0 0, .bool false] [] _ rfl rfl agg_Inst ZB.out rfl rfl rfl (by simp [Value.oneCell']) ?_; intro v9 hzb hzg)
      | fail)
    exact bodyPost_cell rfl ⟨w.heap.size + 1, 0, none⟩ rfl [.int .i64 xr, .int .i64 xs', .int .i64 (-1), .int .i64 (-1), .int .i64 0, .int .i64 0, .int .i64 0, .int .i64 0, .string (bs []), .string (bs []), .string (bs []), .int .i64 0, .slice none 0 0, .int .i64 0, .slice none 0 0, .bool false] agg_Inst rfl (blk_cells hzb) rfl ⟨_, rfl, newInst_mine _ _ _ _, Below.grown BW.out hzg BW.out.size (fun k hk => by injection hk with hk; omega)⟩

end Go.Proofs.Ytoffelfcmfpooaa
