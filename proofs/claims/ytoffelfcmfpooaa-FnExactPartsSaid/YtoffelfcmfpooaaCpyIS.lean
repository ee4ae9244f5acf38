/-
  Copies of instances: spec.l8Copy. Conditions: a bound on the sizes.
-/
import Derived.Test.YtoffelfcmfpooaaCpyS
namespace Go.Proofs.Ytoffelfcmfpooaa
open Go.RowKit

set_option maxRecDepth 100000 in
set_option maxHeartbeats 2000000 in
theorem l8Copy_any (x : InstD) (cs : List Value) (w : World) (hwt : x.c.wt ≤ 1048576) (h : Rep anyB w x.c cs) :
    Calls Try.prog 68 #[.agg cs.toArray] w fun e w' => ∃ cs', e = .returned (.agg cs'.toArray) ∧ Mine w' w.heap.size x.c cs' ∧ Below w.heap.size w w' := by
  have hw0 : x.c.wt = (x.cmd.set.length + (x.cmd.name.length + (x.cmd.tag.length + (x.cmd.chunks.length + (cat strC x.cmd.chunks).wt + (x.deps.length + (cat IdD.c x.deps).wt + 0))))) := rfl
  obtain ⟨A0, k0, A1, k1, rfl, s0, s1⟩ := InstD.open h
  obtain ⟨⟨a0, a1⟩, a2, a3, a4, ⟨c0, c1, c2, c3, c4, c5, c6, c7⟩, a5, a6, a7⟩ := x
  simp only [] at s0 s1 hw0 ⊢
  have hn1 : a6.length ≤ 1048576 := by omega
  have hwc : (CmdD.c ⟨c0, c1, c2, c3, c4, c5, c6, c7⟩).wt ≤ 1048576 := by have e0 : (CmdD.c ⟨c0, c1, c2, c3, c4, c5, c6, c7⟩).wt = c3.length + (c4.length + (c5.length + (c7.length + (cat strC c7).wt + 0))) := rfl; omega
  have SC := Lib.hid (show Rep anyB w (CmdD.c ⟨c0, c1, c2, c3, c4, c5, c6, c7⟩) [.int .i64 c0, .int .i64 c1, .int .i64 c2, .string (bs c3), .string (bs c4), .string (bs c5), .int .i64 c6, .slice A0 c7.length k0] from CmdD.shut s0)
  obtain ⟨cells, hrd, hrc, hwd⟩ := s1.row
  have HRD := Lib.hid hrd
  have HRC := Lib.hid hrc
  have HWD := Lib.hid hwd
  clear hrd hrc hwd
  clear h hwt hw0 s0 s1
  go_enter Try.func68, Try.ntmps68
  go_wp2_with fail
  refine (l4Copy_any ⟨c0, c1, c2, c3, c4, c5, c6, c7⟩ _ _ hwc (SC.out.below (by repeat' (first | with_reducible exact Below.refl _ _ | with_reducible exact BW.out | with_reducible refine Below.setCell ?_ ?_ _ | with_reducible refine Below.alloc ?_ ?_ _ | with_reducible refine Below.drew ?_ | (simp; done) | (simp; omega) | omega)))).mono ?_; rintro e v1 ⟨cs', rfl, hM, hb⟩
  obtain ⟨F1, nd1, o1⟩ := hM
  obtain ⟨A2, k2, F2, rfl, rfl, so⟩ := CmdD.openO o1
  simp only [] at so ⊢
  have hF2 : ∀ b ∈ F1, w.heap.size + 1 + 1 ≤ b := fun b hb2 => by have := (so.in b hb2).1; simp at this; omega
  have HF2 := Lib.hid hF2; clear hF2
  have ND1 := Lib.hid nd1; clear nd1 o1
  have SO := Lib.hid so; clear so
  have SB := Lib.hid (Blk.below (blk2_0 _ _ _ _) hb)
  have ZB := Lib.hid (Blk.below (blk2_1 _ _ _ _) hb)
  have BW := Lib.hid (show Below w.heap.size w v1 from Below.trans (by repeat' (first | with_reducible exact Below.refl _ _ | with_reducible exact BW.out | with_reducible refine Below.setCell ?_ ?_ _ | with_reducible refine Below.alloc ?_ ?_ _ | with_reducible refine Below.drew ?_ | (simp; done) | (simp; omega) | omega)) (hb.mono (by first | (simp; done) | (simp; omega) | omega)))
  have HZ := Lib.hid (show w.heap.size + 1 + 1 ≤ v1.heap.size from Nat.le_trans (by simp) hb.size); clear hb
  go_wp2_with (first
    | ((with_reducible show wpList _ _ _ ({ dst := _, op := Op.store 37 _ _, type := _, pos := _, after := _, guard := _ } :: _) _ _); refine wpList_store_row _ w.heap.size 40 5 [.int .i64 c0, .int .i64 c1, .int .i64 c2, .string (bs c3), .string (bs c4), .string (bs c5), .int .i64 c6, .slice A2 c7.length k2] [.int .i64 a0, .int .i64 a1, .int .i64 a2, .int .i64 a3, .int .i64 a4] [.int .i64 c0, .int .i64 c1, .int .i64 c2, .string (bs c3), .string (bs c4), .string (bs c5), .int .i64 c6, .slice A0 c7.length k0] [.int .i64 a5, .slice A1 a6.length k1, .bool a7] _ rfl rfl agg_Cmd SB.out rfl rfl rfl (by simp [Value.oneCell']) ?_; intro v2 hsb hsg; have SB2 := Lib.hid (show Blk v2 w.heap.size 40 [.int .i64 a0, .int .i64 a1, .int .i64 a2, .int .i64 a3, .int .i64 a4, .int .i64 c0, .int .i64 c1, .int .i64 c2, .string (bs c3), .string (bs c4), .string (bs c5), .int .i64 c6, .slice A2 c7.length k2, .int .i64 a5, .slice A1 a6.length k1, .bool a7].toArray from hsb); have ZB2 := Lib.hid (ZB.out.grown hsg (by omega)); have BW2 := Lib.hid (Below.grown BW.out hsg BW.out.size (fun k hk => by injection hk with hk; omega)); have HZ2 := Lib.hid (Nat.le_trans HZ.out hsg.size); have SO2 := Lib.hid (SO.out.keep0 (base' := w.heap.size) (w' := v2) (fun b hb2 => ⟨by have := HF2.out b hb2; omega, hsg.block b (SO.out.in b hb2).2 (fun e => by injection e with e; have := HF2.out b hb2; omega)⟩)); have hq1 : World.cell? (v2.alloc (.cells #[] 36)) ⟨w.heap.size, 14, none⟩ = some (.slice A1 a6.length k1) := blk_cell0 (L := [.int .i64 a0, .int .i64 a1, .int .i64 a2, .int .i64 a3, .int .i64 a4, .int .i64 c0, .int .i64 c1, .int .i64 c2, .string (bs c3), .string (bs c4), .string (bs c5), .int .i64 c6, .slice A2 c7.length k2, .int .i64 a5, .slice A1 a6.length k1, .bool a7]) (SB2.out.alloc _) 14 rfl; have HO0 := Lib.hid (World.ownsRow_made (base := v2.heap.size) (size := 2) (e := 36) v2 #[] 0 (Nat.le_refl _) (by simp [maxLen]) rfl); clear hsb hsg)
    | (at_builtin; go_must (refine wpList_app E_Id _ rfl (.tmp 7) (.tmp 9) rfl v2.heap.size _ 0 [] rfl HO0.out _ _ _ cells rfl (HRD.out.below (BW2.out.alloc BW2.out.size _)) HRC.out.one (by omega) (by simp) ?_; intro vv v3 hown hg hat; have SB3 := Blk.keep (SB2.out.alloc (.cells #[] 36)) (hg.block _ (SB2.out.alloc _).lt (fun e => by injection e with e; have h3 : w.heap.size = v2.heap.size := e; have := SB2.out.lt; omega)); have ZB3 := Blk.keep (ZB2.out.alloc (.cells #[] 36)) (hg.block _ (ZB2.out.alloc _).lt (fun e => by injection e with e; have h3 : w.heap.size + 1 = v2.heap.size := e; have := ZB2.out.lt; omega)); have BW3 := Below.grown (BW2.out.alloc BW2.out.size (.cells #[] 36)) hg (Nat.le_trans BW2.out.size (by simp)) (fun k hk => by injection hk with hk; have h3 : v2.heap.size = k := hk; have := BW2.out.size; omega); rw [Nat.zero_add, List.nil_append] at hown; obtain ⟨A3, k3, rfl, _⟩ := SlR.of_own hown; have hq0 : v3.cell? ⟨w.heap.size, 14, none⟩ = some (.slice A1 a6.length k1) := blk_cell0 (L := [.int .i64 a0, .int .i64 a1, .int .i64 a2, .int .i64 a3, .int .i64 a4, .int .i64 c0, .int .i64 c1, .int .i64 c2, .string (bs c3), .string (bs c4), .string (bs c5), .int .i64 c6, .slice A2 c7.length k2, .int .i64 a5, .slice A1 a6.length k1, .bool a7]) SB3 14 rfl; have hfz : v3.frozen? ⟨w.heap.size, 14, none⟩ = false := SB3.frozen 14; have HS := Lib.hid (show Blk (v3.setCell ⟨w.heap.size, 14, none⟩ (.slice A3 a6.length k3)) w.heap.size 40 [.int .i64 a0, .int .i64 a1, .int .i64 a2, .int .i64 a3, .int .i64 a4, .int .i64 c0, .int .i64 c1, .int .i64 c2, .string (bs c3), .string (bs c4), .string (bs c5), .int .i64 c6, .slice A2 c7.length k2, .int .i64 a5, .slice A3 a6.length k3, .bool a7].toArray from blk_put0 SB3 14 (.slice A3 a6.length k3)); have ZB4 := Lib.hid (Blk.setOther ZB3 (a := ⟨w.heap.size, 14, none⟩) (by simp) (.slice A3 a6.length k3)); have BW4 := Lib.hid (Below.setCell BW3 (p := ⟨w.heap.size, 14, none⟩) (Nat.le_refl _) (.slice A3 a6.length k3)); have SO4 := Lib.hid (SO2.out.keep0 (base' := w.heap.size) (w' := v3) (fun b hb2 => ⟨by have := HF2.out b hb2; omega, (hg.block b (Nat.lt_of_lt_of_le (SO2.out.in b hb2).2 (by simp)) (fun e => by injection e with e; have h3 : b = v2.heap.size := e; have := (SO2.out.in b hb2).2; omega)).trans (Below.heap_alloc _ _ _ (SO2.out.in b hb2).2)⟩)); have HIN2 := Lib.hid (fun b (hb2 : b ∈ F1) => (SO2.out.in b hb2).2); have HZ3 := Lib.hid (Nat.le_trans HZ2.out (Nat.le_trans (by simp) hg.size)); have SO3 := Lib.hid (show Own v3 v2.heap.size (.sl 36 2 a6.length (cat IdD.c a6) .nil) [.slice A3 a6.length k3] _ from mine_row (cat_flat IdD.flat a6) HRC.out HWD.out hown rfl); have ND3 := Lib.hid (nodup_own (.slice A3 a6.length k3)); clear hown hg hat SB3 ZB3 BW3 hq1))
    | ((with_reducible show wpList _ _ _ ({ dst := _, op := Op.load 40 _, type := _, pos := _, after := _, guard := _ } :: _) _ _); refine wpList_load_row _ ⟨w.heap.size, 0, none⟩ rfl [.int .i64 a0, .int .i64 a1, .int .i64 a2, .int .i64 a3, .int .i64 a4, .int .i64 c0, .int .i64 c1, .int .i64 c2, .string (bs c3), .string (bs c4), .string (bs c5), .int .i64 c6, .slice A2 c7.length k2, .int .i64 a5, .slice A3 a6.length k3, .bool a7] agg_Inst rfl (blk_cells HS.out) ?_)
    | ((with_reducible show wpList _ _ _ ({ dst := _, op := Op.store 40 _ _, type := _, pos := _, after := _, guard := _ } :: _) _ _); refine wpList_store_row _ (w.heap.size + 1) 40 0 [.int .i64 a0, .int .i64 a1, .int .i64 a2, .int .i64 a3, .int .i64 a4, .int .i64 c0, .int .i64 c1, .int .i64 c2, .string (bs c3), .string (bs c4), .string (bs c5), .int .i64 c6, .slice A2 c7.length k2, .int .i64 a5, .slice A3 a6.length k3, .bool a7] [] [.int .i64 0, .int .i64 0, .int .i64 0, .int .i64 0, .int .i64 0, .int .i64 0, .int .i64 0, .int .i64 0, .string ⟨#[]⟩, .string ⟨#[]⟩, .string ⟨#[]⟩, .int .i64 0, .slice none 0 0, .int .i64 0, .slice none 0 0, .bool false] [] _ rfl rfl agg_Inst ZB4.out rfl rfl rfl (by simp [Value.oneCell']) ?_; intro v9 hzb hzg)
    | fail)
  have keepB : ∀ b, w.heap.size + 1 + 1 ≤ b → b < v3.heap.size → v9.heap[b]? = v3.heap[b]? := fun b h1 h2 =>
    (hzg.block b (by rw [setCell_size]; exact h2) (fun e => by injection e with e; omega)).trans (Below.heap_setCell _ _ _ _ (fun e => by have e2 : b = w.heap.size := e; omega))
  have oa := SO4.out.keep0 (base' := w.heap.size) (w' := v9) (fun b hb2 => ⟨by have := HF2.out b hb2; omega, keepB b (HF2.out b hb2) (SO4.out.in b hb2).2⟩)
  have ob := SO3.out.keep0 (base' := w.heap.size) (w' := v9) (fun b hb2 => by
    have h1 := SO3.out.in b hb2
    have h2 := HZ2.out
    exact ⟨by omega, keepB b (by omega) h1.2⟩)
  refine bodyPost_cell rfl ⟨w.heap.size + 1, 0, none⟩ rfl [.int .i64 a0, .int .i64 a1, .int .i64 a2, .int .i64 a3, .int .i64 a4, .int .i64 c0, .int .i64 c1, .int .i64 c2, .string (bs c3), .string (bs c4), .string (bs c5), .int .i64 c6, .slice A2 c7.length k2, .int .i64 a5, .slice A3 a6.length k3, .bool a7] agg_Inst rfl (blk_cells hzb) rfl ⟨_, rfl, ⟨_, nodup_app (m := v2.heap.size) ND1.out ND3.out HIN2.out (fun b hb2 => (SO3.out.in b hb2).1), InstD.shutO (x := ⟨⟨a0, a1⟩, a2, a3, a4, ⟨c0, c1, c2, c3, c4, c5, c6, c7⟩, a5, a6, a7⟩) oa ob⟩, ?_⟩
  exact Below.grown BW4.out hzg (by rw [setCell_size]; have := HZ3.out; omega) (fun k hk => by injection hk with hk; omega)

end Go.Proofs.Ytoffelfcmfpooaa
