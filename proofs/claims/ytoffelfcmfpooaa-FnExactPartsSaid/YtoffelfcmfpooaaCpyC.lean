/-
  Copies of commands: impl.copyCmd. Conditions: a bound on the sizes.
-/
import Derived.Test.YtoffelfcmfpooaaCpy
namespace Go.Proofs.Ytoffelfcmfpooaa
open Go.RowKit

set_option maxRecDepth 100000 in
set_option maxHeartbeats 2000000 in
theorem copyCmd_any (x : CmdD) (cs : List Value) (w : World) (hwt : x.c.wt ≤ 1048576) (h : Rep anyB w x.c cs) :
    Calls Try.prog 73 #[.agg cs.toArray] w fun e w' => ∃ cs', e = .returned (.agg cs'.toArray) ∧ Mine w' w.heap.size x.c cs' ∧ Below w.heap.size w w' := by
  have hw0 : x.c.wt = x.set.length + (x.name.length + (x.tag.length + (x.chunks.length + (cat strC x.chunks).wt + 0))) := rfl
  obtain ⟨A0, k0, rfl, s0⟩ := CmdD.open h
  obtain ⟨a0, a1, a2, a3, a4, a5, a6, a7⟩ := x
  simp only [] at s0 hw0 ⊢
  have hn1 : a7.length ≤ 1048576 := by omega
  have S0 := Lib.hid s0
  clear h hwt hw0 s0
  go_enter Try.func73, Try.ntmps73
  go_wp2_with fail
  refine (copyTexts_any a7 _ _ _ _ hn1 (S0.out.below (by repeat' (first | with_reducible exact Below.refl _ _ | with_reducible exact BW.out | with_reducible refine Below.setCell ?_ ?_ _ | with_reducible refine Below.alloc ?_ ?_ _ | with_reducible refine Below.drew ?_ | (simp; done) | (simp; omega) | omega)))).mono ?_; rintro e v1 ⟨A1, k1, rfl, hM, hb⟩
  have SB := Blk.below (blk2_0 _ _ _ _) hb
  have ZB := Lib.hid (Blk.setOther (Blk.below (blk2_1 _ _ _ _) hb) (a := ⟨w.heap.size, 7, none⟩) (by simp) (.slice A1 a7.length k1))
  have BW := Lib.hid (Below.setCell (show Below w.heap.size w v1 from Below.trans (by repeat' (first | with_reducible exact Below.refl _ _ | with_reducible exact BW.out | with_reducible refine Below.setCell ?_ ?_ _ | with_reducible refine Below.alloc ?_ ?_ _ | with_reducible refine Below.drew ?_ | (simp; done) | (simp; omega) | omega)) (hb.mono (by first | (simp; done) | (simp; omega) | omega))) (p := ⟨w.heap.size, 7, none⟩) (Nat.le_refl _) (.slice A1 a7.length k1))
  have HZ := Lib.hid (show w.heap.size + 1 + 1 ≤ v1.heap.size from Nat.le_trans (by simp) hb.size); clear hb
  have hq0 : v1.cell? ⟨w.heap.size, 7, none⟩ = some (.slice A0 a7.length k0) := blk_cell0 (L := [.int .i64 a0, .int .i64 a1, .int .i64 a2, .string (bs a3), .string (bs a4), .string (bs a5), .int .i64 a6, .slice A0 a7.length k0]) SB 7 rfl
  have hfz : v1.frozen? ⟨w.heap.size, 7, none⟩ = false := SB.frozen 7
  have HS := Lib.hid (blk_put0 SB 7 (.slice A1 a7.length k1)); clear SB
  have HM := Lib.hid hM; clear hM
  go_wp2_with (first
    | ((with_reducible show wpList _ _ _ ({ dst := _, op := Op.load 37 _, type := _, pos := _, after := _, guard := _ } :: _) _ _); refine wpList_load_row _ ⟨w.heap.size, 0, none⟩ rfl [.int .i64 a0, .int .i64 a1, .int .i64 a2, .string (bs a3), .string (bs a4), .string (bs a5), .int .i64 a6, .slice A1 a7.length k1] agg_Cmd rfl (blk_cells HS.out) ?_)
    | ((with_reducible show wpList _ _ _ ({ dst := _, op := Op.store 37 _ _, type := _, pos := _, after := _, guard := _ } :: _) _ _); refine wpList_store_row _ (w.heap.size + 1) 37 0 [.int .i64 a0, .int .i64 a1, .int .i64 a2, .string (bs a3), .string (bs a4), .string (bs a5), .int .i64 a6, .slice A1 a7.length k1] [] [.int .i64 0, .int .i64 0, .int .i64 0, .string ⟨#[]⟩, .string ⟨#[]⟩, .string ⟨#[]⟩, .int .i64 0, .slice none 0 0] [] _ rfl rfl agg_Cmd ZB.out rfl rfl rfl (by simp [Value.oneCell']) ?_; intro v9 hzb hzg)
    | fail)
  obtain ⟨F, hnd, ho⟩ := HM.out
  have ho2 : Own v9 w.heap.size (.sl 9 1 a7.length (cat strC a7) .nil) [.slice A1 a7.length k1] F := ho.keep0 (fun b hb => by
    have h1 := ho.in b hb
    have h3 : w.heap.size + 1 + 1 ≤ b := by have := h1.1; simp at this; omega
    refine ⟨by omega, (hzg.block b (by rw [setCell_size]; exact h1.2) (fun e => by injection e with e; omega)).trans (Below.heap_setCell _ _ _ _ (fun e => by have e2 : b = w.heap.size := e; omega))⟩)
  exact bodyPost_cell rfl ⟨w.heap.size + 1, 0, none⟩ rfl [.int .i64 a0, .int .i64 a1, .int .i64 a2, .string (bs a3), .string (bs a4), .string (bs a5), .int .i64 a6, .slice A1 a7.length k1] agg_Cmd rfl (blk_cells hzb) rfl ⟨_, rfl, ⟨F, hnd, CmdD.shutO (x := ⟨a0, a1, a2, a3, a4, a5, a6, a7⟩) ho2⟩, Below.grown BW.out hzg (by rw [setCell_size]; have := HZ.out; omega) (fun k hk => by injection hk with hk; omega)⟩

end Go.Proofs.Ytoffelfcmfpooaa
