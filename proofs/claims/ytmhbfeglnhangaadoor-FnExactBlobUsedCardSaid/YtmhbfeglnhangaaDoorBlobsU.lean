/-
  BlobUsed, program and reference. Conditions: a bound on the sizes; the table of constants lies at its place.
-/
import Derived.Test.YtmhbfeglnhangaaDoorBlobsI
import Derived.Test.YtmhbfeglnhangaaDoorBlobsS
namespace Go.Proofs.YtmhbfeglnhangaaDoor
open Go.RowKit

theorem below_drewL {w w' : World} (h : Below w.drew.heap.size w.drew w') : Below w.heap.size w w' := ⟨h.os, h.tape, h.output, h.size, h.block⟩
noncomputable def blobUsedF (x : BlobsD) : Int := if blobsOkB x then ((sumB x.list : Nat) : Int) else 0
set_option maxRecDepth 100000 in
set_option maxHeartbeats 1000000 in
theorem iBlobUsed_any (x : BlobsD) (cs : List Value) (w : World) (hwt : x.c.wt ≤ 1048576) (h : Rep anyB w x.c cs) (hK : KK w) :
    Calls Tryd.prog 21 #[.agg cs.toArray] w fun e w' => e = .returned (.int .i64 (blobUsedF x)) ∧ Below w.heap.size w w' := by
  have hlen : cs.length = 2 := h.length.trans (BlobsD.width x)
  have hb0 : Blk (w.alloc (.cells cs.toArray 34)) w.heap.size 34 cs.toArray := blk_new _ _ _
  have hbel0 : Below w.heap.size w (w.alloc (.cells cs.toArray 34)) := (Below.refl _ _).alloc (Nat.le_refl _) _
  have hF : blobUsedF x = if blobsOkB x then ((sumB x.list : Nat) : Int) else 0 := rfl
  have hok := fun W hr => iBlobsOk_any x cs W hwt hr
  generalize blobUsedF x = U at hF ⊢
  have HOK := Lib.hid hok; clear hok
  have HF := Lib.hid hF; clear hF
  go_enter Tryd.func21, Tryd.ntmps21
  go_wp2_with (first | ((with_reducible show wpList _ _ _ ({ dst := _, op := Op.load 34 _, type := _, pos := _, after := _, guard := _ } :: _) _ _); refine wpList_load_row _ ⟨w.heap.size, 0, none⟩ rfl cs agg_Blobs hlen (blk_cells hb0) ?_) | fail)
  refine (HOK.out _ (h.below hbel0) (hK.below (show Below w.heap.size w (w.alloc _) from (Below.refl _ _).alloc (Nat.le_refl _) _) hK.pos)).mono ?_
  rintro e v1 ⟨rfl, hb1⟩
  have hB1 := hb0.below hb1
  have hbel1 := hbel0.trans (hb1.mono hbel0.size)
  clear hb1 hb0 hbel0
  cases hbb : blobsOkB x
  · go_wp2
    go_ret
    exact ⟨ret_eq (by rw [HF.out, hbb]; rfl), hbel1⟩
  · go_wp2_with (first | ((with_reducible show wpList _ _ _ ({ dst := _, op := Op.load 34 _, type := _, pos := _, after := _, guard := _ } :: _) _ _); refine wpList_load_row _ ⟨w.heap.size, 0, none⟩ rfl cs agg_Blobs hlen (blk_cells hB1) ?_) | fail)
    refine (iSum_any x cs _ hwt (h.below hbel1)).mono ?_
    rintro e v2 ⟨rfl, hb2⟩
    have H2 := Lib.hid (hbel1.trans (hb2.mono hbel1.size)); clear hb2
    go_wp2
    go_ret
    exact ⟨ret_eq (by rw [HF.out, hbb]; rfl), H2.out⟩
set_option maxRecDepth 100000 in
set_option maxHeartbeats 1000000 in
theorem sBlobUsed_any (x : BlobsD) (cs : List Value) (w : World) (hwt : x.c.wt ≤ 1048576) (h : Rep anyB w x.c cs) :
    Calls Tryd.prog 20 #[.agg cs.toArray] w fun e w' => e = .returned (.int .i64 (blobUsedF x)) ∧ Below w.heap.size w w' := by
  have hlen : cs.length = 2 := h.length.trans (BlobsD.width x)
  have hb0 : Blk (w.alloc (.cells cs.toArray 34)) w.heap.size 34 cs.toArray := blk_new _ _ _
  have hbel0 : Below w.heap.size w (w.alloc (.cells cs.toArray 34)) := (Below.refl _ _).alloc (Nat.le_refl _) _
  have hF : blobUsedF x = if blobsOkB x then ((sumB x.list : Nat) : Int) else 0 := rfl
  have hok := fun W hr => sBlobsOk_any x cs W hwt hr
  generalize blobUsedF x = U at hF ⊢
  have HOK := Lib.hid hok; clear hok
  have HF := Lib.hid hF; clear hF
  go_enter Tryd.func20, Tryd.ntmps20
  go_wp2_with (first | ((with_reducible show wpList _ _ _ ({ dst := _, op := Op.load 34 _, type := _, pos := _, after := _, guard := _ } :: _) _ _); refine wpList_load_row _ ⟨w.heap.size, 0, none⟩ rfl cs agg_Blobs hlen (blk_cells hb0) ?_) | fail)
  refine (HOK.out _ (h.below hbel0)).mono ?_
  rintro e v1 ⟨rfl, hb1⟩
  have hB1 := hb0.below hb1
  have hbel1 := hbel0.trans (hb1.mono hbel0.size)
  clear hb1 hb0 hbel0
  cases hbb : blobsOkB x
  · go_wp2
    go_ret
    exact ⟨ret_eq (by rw [HF.out, hbb]; rfl), hbel1⟩
  · go_wp2_with (first | ((with_reducible show wpList _ _ _ ({ dst := _, op := Op.load 34 _, type := _, pos := _, after := _, guard := _ } :: _) _ _); refine wpList_load_row _ ⟨w.heap.size, 0, none⟩ rfl cs agg_Blobs hlen (blk_cells hB1) ?_) | fail)
    refine (sSum_any x cs _ hwt (h.below hbel1)).mono ?_
    rintro e v2 ⟨rfl, hb2⟩
    have H2 := Lib.hid (hbel1.trans (hb2.mono hbel1.size)); clear hb2
    go_wp2
    go_ret
    exact ⟨ret_eq (by rw [HF.out, hbb]; rfl), H2.out⟩
end Go.Proofs.YtmhbfeglnhangaaDoor
