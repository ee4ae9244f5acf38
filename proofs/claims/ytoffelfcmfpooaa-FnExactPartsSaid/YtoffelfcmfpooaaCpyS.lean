/-
  Copies of commands and instances: spec.l4Copy, spec.l8Copy. Conditions: a bound on the sizes.
-/
import Derived.Test.YtoffelfcmfpooaaCpy
namespace Go.Proofs.Ytoffelfcmfpooaa
open Go.RowKit

set_option maxRecDepth 100000 in
set_option maxHeartbeats 2000000 in
theorem l4Copy_any (x : CmdD) (cs : List Value) (w : World) (hwt : x.c.wt ≤ 1048576) (h : Rep anyB w x.c cs) :
    Calls Try.prog 88 #[.agg cs.toArray] w fun e w' => ∃ cs', e = .returned (.agg cs'.toArray) ∧ Mine w' w.heap.size x.c cs' ∧ Below w.heap.size w w' := by
  have hw0 : x.c.wt = x.set.length + (x.name.length + (x.tag.length + (x.chunks.length + (cat strC x.chunks).wt + 0))) := rfl
  obtain ⟨A0, k0, rfl, s0⟩ := CmdD.open h
  obtain ⟨a0, a1, a2, a3, a4, a5, a6, a7⟩ := x
  simp only [] at s0 hw0 ⊢
  obtain ⟨cells, hrd, hrc, hwd⟩ := s0.row
  have hn1 : a7.length ≤ 1048576 := by omega
  have HRD := Lib.hid hrd
  have HRC := Lib.hid hrc
  have HWD := Lib.hid hwd
  clear h hw0 hwt s0 hrd hrc hwd
  have ho0 := World.ownsRow_made (base := w.heap.size) (size := 1) (e := 9) ((w.alloc (.cells #[.int .i64 a0, .int .i64 a1, .int .i64 a2, .string (bs a3), .string (bs a4), .string (bs a5), .int .i64 a6, .slice A0 a7.length k0] 37)).alloc (.cells #[.int .i64 0, .int .i64 0, .int .i64 0, .string ⟨#[]⟩, .string ⟨#[]⟩, .string ⟨#[]⟩, .int .i64 0, .slice none 0 0] 37)) #[] 0 (by simp; omega) (by simp [maxLen]) rfl
  rw [show (World.heap ((w.alloc (.cells #[.int .i64 a0, .int .i64 a1, .int .i64 a2, .string (bs a3), .string (bs a4), .string (bs a5), .int .i64 a6, .slice A0 a7.length k0] 37)).alloc (.cells #[.int .i64 0, .int .i64 0, .int .i64 0, .string ⟨#[]⟩, .string ⟨#[]⟩, .string ⟨#[]⟩, .int .i64 0, .slice none 0 0] 37))).size = w.heap.size + 1 + 1 by simp] at ho0
  have HO0 := Lib.hid ho0; clear ho0
  go_enter Try.func88, Try.ntmps88
  go_wp2_with (first
    | (at_builtin; go_must (refine wpList_app E_str _ rfl (.tmp 3) (.tmp 5) rfl w.heap.size _ 0 [] rfl HO0.out _ _ _ cells rfl (HRD.out.below (show Below w.heap.size w _ from (by repeat' (first | with_reducible exact Below.refl _ _ | with_reducible exact BW.out | with_reducible refine Below.setCell ?_ ?_ _ | with_reducible refine Below.alloc ?_ ?_ _ | with_reducible refine Below.drew ?_ | (simp; done) | (simp; omega) | omega)))) HRC.out.one (by omega) (by simp; omega) ?_; intro vv w2 hown hg hat; have hb2 : Below w.heap.size w w2 := Below.grown (show Below w.heap.size w _ from (by repeat' (first | with_reducible exact Below.refl _ _ | with_reducible exact BW.out | with_reducible refine Below.setCell ?_ ?_ _ | with_reducible refine Below.alloc ?_ ?_ _ | with_reducible refine Below.drew ?_ | (simp; done) | (simp; omega) | omega))) hg (by simp; omega) (fun k hk => by injection hk with hk; first | omega | (simp at hk; done) | (simp at hk; omega)); have hb3 : w.heap.size + 1 + 1 + 1 ≤ w2.heap.size := Nat.le_trans (by simp) hg.size; have hsb : Blk w2 w.heap.size 37 [.int .i64 a0, .int .i64 a1, .int .i64 a2, .string (bs a3), .string (bs a4), .string (bs a5), .int .i64 a6, .slice A0 a7.length k0].toArray := Blk.keep (w := ((w.alloc (.cells #[.int .i64 a0, .int .i64 a1, .int .i64 a2, .string (bs a3), .string (bs a4), .string (bs a5), .int .i64 a6, .slice A0 a7.length k0] 37)).alloc (.cells #[.int .i64 0, .int .i64 0, .int .i64 0, .string ⟨#[]⟩, .string ⟨#[]⟩, .string ⟨#[]⟩, .int .i64 0, .slice none 0 0] 37)).alloc (.cells #[] 9)) (blk3_0 _ _ _ _ _) (hg.block _ (by simp; omega) (fun e => by injection e with e; first | omega | (simp at e; done) | (simp at e; omega))); have hz : Blk w2 (w.heap.size + 1) 37 [.int .i64 0, .int .i64 0, .int .i64 0, .string ⟨#[]⟩, .string ⟨#[]⟩, .string ⟨#[]⟩, .int .i64 0, .slice none 0 0].toArray := Blk.keep (w := ((w.alloc (.cells #[.int .i64 a0, .int .i64 a1, .int .i64 a2, .string (bs a3), .string (bs a4), .string (bs a5), .int .i64 a6, .slice A0 a7.length k0] 37)).alloc (.cells #[.int .i64 0, .int .i64 0, .int .i64 0, .string ⟨#[]⟩, .string ⟨#[]⟩, .string ⟨#[]⟩, .int .i64 0, .slice none 0 0] 37)).alloc (.cells #[] 9)) (blk3_1 _ _ _ _ _) (hg.block _ (by simp) (fun e => by injection e with e; first | omega | (simp at e; done) | (simp at e; omega))); rw [Nat.zero_add, List.nil_append] at hown; obtain ⟨Av, cv, rfl, _⟩ := SlR.of_own hown; have hq0 : w2.cell? ⟨w.heap.size, 7, none⟩ = some (.slice A0 a7.length k0) := blk_cell0 (L := [.int .i64 a0, .int .i64 a1, .int .i64 a2, .string (bs a3), .string (bs a4), .string (bs a5), .int .i64 a6, .slice A0 a7.length k0]) hsb 7 rfl; have hfz : w2.frozen? ⟨w.heap.size, 7, none⟩ = false := hsb.frozen 7; have HS := Lib.hid (show Blk (w2.setCell ⟨w.heap.size, 7, none⟩ (.slice Av a7.length cv)) w.heap.size 37 [.int .i64 a0, .int .i64 a1, .int .i64 a2, .string (bs a3), .string (bs a4), .string (bs a5), .int .i64 a6, .slice Av a7.length cv].toArray from blk_put0 hsb 7 (.slice Av a7.length cv)); have HZ := Lib.hid (Blk.setOther hz (a := ⟨w.heap.size, 7, none⟩) (by simp) (.slice Av a7.length cv)); have HB2 := Lib.hid hb2; have HB3 := Lib.hid hb3; have HAT := Lib.hid hat; have HO := Lib.hid hown; clear hb2 hb3 hsb hz hat hown hg))
    | ((with_reducible show wpList _ _ _ ({ dst := _, op := Op.load 37 _, type := _, pos := _, after := _, guard := _ } :: _) _ _); refine wpList_load_row _ ⟨w.heap.size, 0, none⟩ rfl [.int .i64 a0, .int .i64 a1, .int .i64 a2, .string (bs a3), .string (bs a4), .string (bs a5), .int .i64 a6, .slice Av a7.length cv] agg_Cmd rfl (blk_cells HS.out) ?_)
    | ((with_reducible show wpList _ _ _ ({ dst := _, op := Op.store 37 _ _, type := _, pos := _, after := _, guard := _ } :: _) _ _); refine wpList_store_row _ (w.heap.size + 1) 37 0 [.int .i64 a0, .int .i64 a1, .int .i64 a2, .string (bs a3), .string (bs a4), .string (bs a5), .int .i64 a6, .slice Av a7.length cv] [] [.int .i64 0, .int .i64 0, .int .i64 0, .string ⟨#[]⟩, .string ⟨#[]⟩, .string ⟨#[]⟩, .int .i64 0, .slice none 0 0] [] _ rfl rfl agg_Cmd HZ.out rfl rfl rfl (by simp [Value.oneCell']) ?_; intro w3 hsb hsg)
    | fail)
  have hbb : ∀ b, (Value.slice Av a7.length cv).ownBlock = some b → w.heap.size + 1 < b := fun b hb => by
    rcases HAT.out with h | h
    · have e : some b = some (w.heap.size + 1 + 1) := hb.symm.trans h
      injection e with e
      omega
    · have e := hb.symm.trans h
      injection e with e
      rw [e]
      simp
  have hown3 : w3.ownsRow w.heap.size 9 1 (.slice Av a7.length cv) a7.length cells := ownsRow_keep HO.out (fun b hb => by
    have h1 := hbb b hb
    have h2 := HO.out.lt b hb
    refine ⟨by omega, (hsg.block b (by simpa [World.setCell] using h2.2) (fun e => by injection e with e; omega)).trans (Below.heap_setCell _ _ _ _ (fun e => ?_))⟩
    have e2 : b = w.heap.size := e
    omega)
  refine bodyPost_cell rfl ⟨w.heap.size + 1, 0, none⟩ rfl [.int .i64 a0, .int .i64 a1, .int .i64 a2, .string (bs a3), .string (bs a4), .string (bs a5), .int .i64 a6, .slice Av a7.length cv] agg_Cmd rfl (blk_cells hsb) rfl ⟨_, rfl, ⟨_, nodup_own _, CmdD.shutO (x := ⟨a0, a1, a2, a3, a4, a5, a6, a7⟩) (mine_row (cat_flat strC_flat a7) HRC.out HWD.out hown3 rfl)⟩, ?_⟩
  exact Below.grown (Below.setCell HB2.out (Nat.le_refl _) _) hsg (by rw [setCell_size]; exact Nat.le_trans (Nat.le_add_right _ 3) HB3.out) (fun k hk => by injection hk with hk; omega)

end Go.Proofs.Ytoffelfcmfpooaa
