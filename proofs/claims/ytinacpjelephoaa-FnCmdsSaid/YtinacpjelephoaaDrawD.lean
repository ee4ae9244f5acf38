/-
  Commands that the reference draws, right ones and spoilt ones: they are there, and not great. Conditions: a code of at most 2^20 bytes.
-/
import Derived.Test.YtinacpjelephoaaDrawC
namespace Go.Proofs.Ytinacpjelephoaa
open Go.RowKit

set_option maxRecDepth 100000 in
set_option maxHeartbeats 8000000 in
theorem l4Cmd_x (B g : Nat) (xs : List UInt8) (s : DSt) (w : World) (hc : Cur B g xs s w) :
    Calls Try.prog 37 #[.pointer (some ⟨g, 0, none⟩)] w (CmdPost 5 B g xs w) := by
  have hgl := hc.lt
  have H12 := Lib.hid (fun w s hc => l1Once_e B g 12 xs s w hc (by omega) (by omega))
  have H8 := Lib.hid (fun w s hc => l1Once_e B g 8 xs s w hc (by omega) (by omega))
  have HB6 := Lib.hid (fun w s hc => l1Below_e B g 6 xs s w hc (by omega) (by omega))
  have HR := Lib.hid (fun w s hc => l4Right_x B g xs s w hc)
  have HT9 := Lib.hid (fun w s hc => l1Text_e B g 9 xs s w hc (by omega))
  go_enter Try.func37, Try.ntmps37
  go_wp2_with fail
  refine (H12.out _ _ (hc.keep (grown_alloc w _) (fun k hk => by cases hk))).mono ?_
  rintro e w1 ⟨b, s1, rfl, hc1, hg1⟩
  have ZB := Lib.hid (show Blk w1 w.heap.size 38 [.int .i64 0, .int .i64 0, .int .i64 0, .string (bs []), .string (bs []), .string (bs []), .int .i64 0, .slice none 0 0].toArray from (blk_new w _ _).grown hg1 (by omega))
  have GR := Lib.hid (show w.grownBy w1 (some g) from grown_trans (grown_weak (grown_alloc w _)) hg1)
  have HZ := Lib.hid (show w.heap.size + 1 ≤ w1.heap.size from Nat.le_trans (by simp) hg1.size)
  have HC := Lib.hid hc1; clear hc1 hg1 hc
  cases b with
  | true =>
    go_wp2_with (first | ((with_reducible show wpList _ _ _ ({ dst := _, op := Op.store 38 _ _, type := _, pos := _, after := _, guard := _ } :: _) _ _); go_must (refine wpList_store_row _ w.heap.size 38 0 [.int .i64 0, .int .i64 0, .int .i64 0, .string (bs []), .string (bs []), .string (bs []), .int .i64 0, .slice none 0 0] [] [.int .i64 0, .int .i64 0, .int .i64 0, .string (bs []), .string (bs []), .string (bs []), .int .i64 0, .slice none 0 0] [] _ rfl rfl agg_Cmd ZB.out rfl rfl rfl (by simp [Value.oneCell']) ?_; intro v10 hzb hzg)) | fail)
    skip
    exact bodyPost_cell rfl ⟨w.heap.size, 0, none⟩ rfl [.int .i64 0, .int .i64 0, .int .i64 0, .string (bs []), .string (bs []), .string (bs []), .int .i64 0, .slice none 0 0] agg_Cmd rfl (blk_cells hzb) rfl ⟨⟨zeroCmd, _, _, rfl, ⟨by simp [zeroCmd], by simp [zeroCmd], by simp [zeroCmd], by simp [zeroCmd], by simp [zeroCmd]⟩, zeroCmd_mine _ _, HC.out.keep hzg (fun k hk => by injection hk with hk; omega), grown_New GR.out hzg (Nat.le_refl _)⟩⟩
  | false =>
    go_wp2_with fail
    refine (HR.out _ _ HC.out).mono ?_
    rintro e w2 ⟨⟨d, cs, s2, rfl, hsm, ⟨F, _, ho⟩, hc2, hg2⟩⟩
    obtain ⟨A, k, F', rfl, _, hst⟩ := CmdD.openO ho
    obtain ⟨hrow, _⟩ := hst.strs
    obtain ⟨kd, cl, no, st, nm, tg, nn, ch⟩ := d
    obtain ⟨hs1, hs2, hs3, hs4, hs5⟩ := hsm
    simp only [] at hrow hs1 hs2 hs3 hs4 hs5 ⊢
    clear hst ho
    have X := Lib.hid (ZB.out.grown hg2 (by omega)); clear ZB
    have ZB := Lib.hid X.out; clear X
    have X := Lib.hid (grown_trans GR.out hg2); clear GR
    have GR := Lib.hid X.out; clear X
    have hzz := HZ.out
    have X := Lib.hid (Nat.le_trans HZ.out hg2.size); clear HZ
    have HZ := Lib.hid X.out; clear X
    clear HC
    have RW := Lib.hid (ownsRow_keep (base' := w.heap.size + 1) hrow (fun k' hk => ⟨by have := (hrow.lt k' hk).1; omega, rfl⟩)); clear hrow
    have HC := Lib.hid hc2; clear hc2 hg2 hzz
    obtain ⟨gx, hgx⟩ : ∃ x, x = w2.heap.size := ⟨_, rfl⟩
    have HGX := Lib.hid (show w.heap.size + 1 ≤ gx by rw [hgx]; exact HZ.out)
    have HNE := Lib.hid (fun k' hk => show k' < gx by rw [hgx]; exact (RW.out.lt k' hk).2)
    have HGE := Lib.hid hgx; clear hgx
    go_wp2_with (first | ((with_reducible show wpList _ _ _ ({ dst := _, op := Op.store 38 _ _, type := _, pos := _, after := _, guard := _ } :: _) _ _); go_must (refine wpList_store_row _ w2.heap.size 38 0 [.int .i64 kd, .int .i64 cl, .int .i64 no, .string (bs st), .string (bs nm), .string (bs tg), .int .i64 nn, .slice A ch.length k] [] [.int .i64 0, .int .i64 0, .int .i64 0, .string (bs []), .string (bs []), .string (bs []), .int .i64 0, .slice none 0 0] [] _ rfl rfl agg_Cmd (blk_new w2 _ _) rfl rfl rfl (by simp [Value.oneCell']) ?_; intro w4 hsb hg; rw [← HGE.out] at hsb hg ⊢; have R := Lib.hid (show RSt B g xs w gx [.int .i64 kd, .int .i64 cl, .int .i64 no, .string (bs st), .string (bs nm), .string (bs tg), .int .i64 nn, .slice A ch.length k] s2 w4 from ⟨(ZB.out.alloc _).grown hg (by have := HGX.out; omega), by simpa using hsb, grown_New (grown_trans GR.out (grown_weak (grown_alloc w2 _))) hg (by have := HGX.out; omega), Nat.le_trans (by rw [HGE.out]; simp) hg.size, (HC.out.keep (grown_alloc w2 _) (fun k hk => by cases hk)).keep hg (fun k hk => by injection hk with hk; have := HGX.out; omega), HGX.out, hgl⟩); clear hsb; have X := Lib.hid (ownsRow_keep (base' := w.heap.size + 1) (RW.out.alloc _) (fun k' hk => ⟨(RW.out.lt k' hk).1, hg.block k' ((RW.out.alloc _).lt k' hk).2 (fun e => by have h1 := HNE.out k' hk; injection e with e; omega)⟩)); clear RW; have RW := Lib.hid X.out; clear X; clear hg)) | fail)
    clear HGE ZB GR HZ HC
    refine (H8.out _ _ R.out.cu).mono ?_
    rintro e w5 ⟨b8, s5, rfl, hc1, hg1⟩
    have X := Lib.hid (ownsRow_keep (base' := w.heap.size + 1) RW.out (fun k' hk => ⟨(RW.out.lt k' hk).1, hg1.block k' (RW.out.lt k' hk).2 (fun e => by have h1 := (RW.out.lt k' hk).1; injection e with e; omega)⟩)); clear RW
    have RW := Lib.hid X.out; clear X
    have X := Lib.hid (RSt.call R.out hc1 hg1); clear R hc1 hg1
    have R := Lib.hid X.out; clear X
    cases b8 with
    | false =>
      go_wp2_with (first | ((with_reducible show wpList _ _ _ ({ dst := _, op := Op.load 38 _, type := _, pos := _, after := _, guard := _ } :: _) _ _); refine wpList_load_row _ ⟨gx, 0, none⟩ rfl [.int .i64 kd, .int .i64 cl, .int .i64 no, .string (bs st), .string (bs nm), .string (bs tg), .int .i64 nn, .slice A ch.length k] agg_Cmd rfl (blk_cells R.out.cb) ?_) | ((with_reducible show wpList _ _ _ ({ dst := _, op := Op.store 38 _ _, type := _, pos := _, after := _, guard := _ } :: _) _ _); go_must (refine wpList_store_row _ w.heap.size 38 0 [.int .i64 kd, .int .i64 cl, .int .i64 no, .string (bs st), .string (bs nm), .string (bs tg), .int .i64 nn, .slice A ch.length k] [] [.int .i64 0, .int .i64 0, .int .i64 0, .string (bs []), .string (bs []), .string (bs []), .int .i64 0, .slice none 0 0] [] _ rfl rfl agg_Cmd R.out.zb rfl rfl rfl (by simp [Value.oneCell']) ?_; intro v10 hzb hzg)) | fail)
      skip
      exact bodyPost_cell rfl ⟨w.heap.size, 0, none⟩ rfl [.int .i64 kd, .int .i64 cl, .int .i64 no, .string (bs st), .string (bs nm), .string (bs tg), .int .i64 nn, .slice A ch.length k] agg_Cmd rfl (blk_cells hzb) rfl ⟨⟨⟨kd, cl, no, st, nm, tg, nn, ch⟩, _, _, rfl, small_c (by first | assumption | simp) (by assumption) (by assumption) (by omega) (by omega), cmd_mine (c := ⟨kd, cl, no, st, nm, tg, nn, ch⟩) (ownsRow_keep (base' := w.heap.size) RW.out (fun k' hk => ⟨by have h1 := (RW.out.lt k' hk).1; omega, hzg.block k' (RW.out.lt k' hk).2 (fun e => by have h1 := (RW.out.lt k' hk).1; injection e with e; omega)⟩)), R.out.cu.keep hzg (fun k hk => by injection hk with hk; omega), grown_New R.out.gr hzg (Nat.le_refl _)⟩⟩
    | true =>
      go_wp2_with fail
      refine (HB6.out _ _ R.out.cu).mono ?_
      rintro e w6 ⟨m, s6, hm, rfl, hc1, hg1⟩
      have X := Lib.hid (ownsRow_keep (base' := w.heap.size + 1) RW.out (fun k' hk => ⟨(RW.out.lt k' hk).1, hg1.block k' (RW.out.lt k' hk).2 (fun e => by have h1 := (RW.out.lt k' hk).1; injection e with e; omega)⟩)); clear RW
      have RW := Lib.hid X.out; clear X
      have X := Lib.hid (RSt.call R.out hc1 hg1); clear R hc1 hg1
      have R := Lib.hid X.out; clear X
      by_cases h0 : m = 0
      · subst h0
        go_wp2_with fail
        refine (l1PickInt_e B g xs _ [-1, 0, 8, 3] _ 4 4 _ (R.out.alloc _).cu rfl (by omega) (by omega) (by have h1 := R.out.gb; have h2 := R.out.g1; have h3 := R.out.gl; omega) (reads_new_ints2 _ _ _ _ [-1, 0, 8, 3] rfl rfl)).mono ?_
        rintro e w7 ⟨v, s7, rfl, hc1, hg1⟩
        have X := Lib.hid (ownsRow_keep (base' := w.heap.size + 1) (RW.out.alloc _) (fun k' hk => ⟨(RW.out.lt k' hk).1, hg1.block k' ((RW.out.alloc _).lt k' hk).2 (fun e => by have h1 := (RW.out.lt k' hk).1; injection e with e; omega)⟩)); clear RW
        have RW := Lib.hid X.out; clear X
        have X := Lib.hid ((R.out.alloc _).call hc1 hg1); clear R hc1 hg1
        have R := Lib.hid X.out; clear X
        have f0 := R.out.cb.frozen 0
        have c1 := blk_cell0 R.out.cb 0 rfl
        have X := Lib.hid (show RSt B g xs w gx [.int .i64 v, .int .i64 cl, .int .i64 no, .string (bs st), .string (bs nm), .string (bs tg), .int .i64 nn, .slice A ch.length k] s7 (w7.setCell ⟨gx, 0, none⟩ (.int .i64 v)) from R.out.set 0 (.int .i64 v)); clear R
        have R := Lib.hid X.out; clear X
        have X := Lib.hid (ownsRow_keep (base' := w.heap.size + 1) (w' := (w7.setCell ⟨gx, 0, none⟩ (.int .i64 v))) RW.out (fun k' hk => ⟨(RW.out.lt k' hk).1, Below.heap_setCell _ _ _ _ (fun e => by have h1 := HNE.out k' hk; have e2 : k' = gx := e; omega)⟩)); clear RW
        have RW := Lib.hid X.out; clear X
        go_wp2_with (first | ((with_reducible show wpList _ _ _ ({ dst := _, op := Op.load 38 _, type := _, pos := _, after := _, guard := _ } :: _) _ _); refine wpList_load_row _ ⟨gx, 0, none⟩ rfl [.int .i64 v, .int .i64 cl, .int .i64 no, .string (bs st), .string (bs nm), .string (bs tg), .int .i64 nn, .slice A ch.length k] agg_Cmd rfl (blk_cells R.out.cb) ?_) | ((with_reducible show wpList _ _ _ ({ dst := _, op := Op.store 38 _ _, type := _, pos := _, after := _, guard := _ } :: _) _ _); go_must (refine wpList_store_row _ w.heap.size 38 0 [.int .i64 v, .int .i64 cl, .int .i64 no, .string (bs st), .string (bs nm), .string (bs tg), .int .i64 nn, .slice A ch.length k] [] [.int .i64 0, .int .i64 0, .int .i64 0, .string (bs []), .string (bs []), .string (bs []), .int .i64 0, .slice none 0 0] [] _ rfl rfl agg_Cmd R.out.zb rfl rfl rfl (by simp [Value.oneCell']) ?_; intro v10 hzb hzg)) | fail)
        skip
        exact bodyPost_cell rfl ⟨w.heap.size, 0, none⟩ rfl [.int .i64 v, .int .i64 cl, .int .i64 no, .string (bs st), .string (bs nm), .string (bs tg), .int .i64 nn, .slice A ch.length k] agg_Cmd rfl (blk_cells hzb) rfl ⟨⟨⟨v, cl, no, st, nm, tg, nn, ch⟩, _, _, rfl, small_c (by first | assumption | simp) (by assumption) (by assumption) (by omega) (by omega), cmd_mine (c := ⟨v, cl, no, st, nm, tg, nn, ch⟩) (ownsRow_keep (base' := w.heap.size) RW.out (fun k' hk => ⟨by have h1 := (RW.out.lt k' hk).1; omega, hzg.block k' (RW.out.lt k' hk).2 (fun e => by have h1 := (RW.out.lt k' hk).1; injection e with e; omega)⟩)), R.out.cu.keep hzg (fun k hk => by injection hk with hk; omega), grown_New R.out.gr hzg (Nat.le_refl _)⟩⟩
      have b0 : ((m : Int) == 0) = false := by simp only [beq_eq_false_iff_ne]; omega
      by_cases h1 : m = 1
      · subst h1
        go_wp2_with fail
        refine (l1PickInt_e B g xs _ [0, 9, 10] _ 3 3 _ (R.out.alloc _).cu rfl (by omega) (by omega) (by have h1 := R.out.gb; have h2 := R.out.g1; have h3 := R.out.gl; omega) (reads_new_ints2 _ _ _ _ [0, 9, 10] rfl rfl)).mono ?_
        rintro e w7 ⟨v, s7, rfl, hc1, hg1⟩
        have X := Lib.hid (ownsRow_keep (base' := w.heap.size + 1) (RW.out.alloc _) (fun k' hk => ⟨(RW.out.lt k' hk).1, hg1.block k' ((RW.out.alloc _).lt k' hk).2 (fun e => by have h1 := (RW.out.lt k' hk).1; injection e with e; omega)⟩)); clear RW
        have RW := Lib.hid X.out; clear X
        have X := Lib.hid ((R.out.alloc _).call hc1 hg1); clear R hc1 hg1
        have R := Lib.hid X.out; clear X
        have f0 := R.out.cb.frozen 1
        have c1 := blk_cell0 R.out.cb 1 rfl
        have X := Lib.hid (show RSt B g xs w gx [.int .i64 kd, .int .i64 v, .int .i64 no, .string (bs st), .string (bs nm), .string (bs tg), .int .i64 nn, .slice A ch.length k] s7 (w7.setCell ⟨gx, 1, none⟩ (.int .i64 v)) from R.out.set 1 (.int .i64 v)); clear R
        have R := Lib.hid X.out; clear X
        have X := Lib.hid (ownsRow_keep (base' := w.heap.size + 1) (w' := (w7.setCell ⟨gx, 1, none⟩ (.int .i64 v))) RW.out (fun k' hk => ⟨(RW.out.lt k' hk).1, Below.heap_setCell _ _ _ _ (fun e => by have h1 := HNE.out k' hk; have e2 : k' = gx := e; omega)⟩)); clear RW
        have RW := Lib.hid X.out; clear X
        go_wp2_with (first | ((with_reducible show wpList _ _ _ ({ dst := _, op := Op.load 38 _, type := _, pos := _, after := _, guard := _ } :: _) _ _); refine wpList_load_row _ ⟨gx, 0, none⟩ rfl [.int .i64 kd, .int .i64 v, .int .i64 no, .string (bs st), .string (bs nm), .string (bs tg), .int .i64 nn, .slice A ch.length k] agg_Cmd rfl (blk_cells R.out.cb) ?_) | ((with_reducible show wpList _ _ _ ({ dst := _, op := Op.store 38 _ _, type := _, pos := _, after := _, guard := _ } :: _) _ _); go_must (refine wpList_store_row _ w.heap.size 38 0 [.int .i64 kd, .int .i64 v, .int .i64 no, .string (bs st), .string (bs nm), .string (bs tg), .int .i64 nn, .slice A ch.length k] [] [.int .i64 0, .int .i64 0, .int .i64 0, .string (bs []), .string (bs []), .string (bs []), .int .i64 0, .slice none 0 0] [] _ rfl rfl agg_Cmd R.out.zb rfl rfl rfl (by simp [Value.oneCell']) ?_; intro v10 hzb hzg)) | fail)
        skip
        exact bodyPost_cell rfl ⟨w.heap.size, 0, none⟩ rfl [.int .i64 kd, .int .i64 v, .int .i64 no, .string (bs st), .string (bs nm), .string (bs tg), .int .i64 nn, .slice A ch.length k] agg_Cmd rfl (blk_cells hzb) rfl ⟨⟨⟨kd, v, no, st, nm, tg, nn, ch⟩, _, _, rfl, small_c (by first | assumption | simp) (by assumption) (by assumption) (by omega) (by omega), cmd_mine (c := ⟨kd, v, no, st, nm, tg, nn, ch⟩) (ownsRow_keep (base' := w.heap.size) RW.out (fun k' hk => ⟨by have h1 := (RW.out.lt k' hk).1; omega, hzg.block k' (RW.out.lt k' hk).2 (fun e => by have h1 := (RW.out.lt k' hk).1; injection e with e; omega)⟩)), R.out.cu.keep hzg (fun k hk => by injection hk with hk; omega), grown_New R.out.gr hzg (Nat.le_refl _)⟩⟩
      have b1 : ((m : Int) == 1) = false := by simp only [beq_eq_false_iff_ne]; omega
      by_cases h2 : m = 2
      · subst h2
        go_wp2_with fail
        refine (l1PickInt_e B g xs _ [0, 1000, 1001] _ 3 3 _ (R.out.alloc _).cu rfl (by omega) (by omega) (by have h1 := R.out.gb; have h2 := R.out.g1; have h3 := R.out.gl; omega) (reads_new_ints2 _ _ _ _ [0, 1000, 1001] rfl rfl)).mono ?_
        rintro e w7 ⟨v, s7, rfl, hc1, hg1⟩
        have X := Lib.hid (ownsRow_keep (base' := w.heap.size + 1) (RW.out.alloc _) (fun k' hk => ⟨(RW.out.lt k' hk).1, hg1.block k' ((RW.out.alloc _).lt k' hk).2 (fun e => by have h1 := (RW.out.lt k' hk).1; injection e with e; omega)⟩)); clear RW
        have RW := Lib.hid X.out; clear X
        have X := Lib.hid ((R.out.alloc _).call hc1 hg1); clear R hc1 hg1
        have R := Lib.hid X.out; clear X
        have f0 := R.out.cb.frozen 2
        have c1 := blk_cell0 R.out.cb 2 rfl
        have X := Lib.hid (show RSt B g xs w gx [.int .i64 kd, .int .i64 cl, .int .i64 v, .string (bs st), .string (bs nm), .string (bs tg), .int .i64 nn, .slice A ch.length k] s7 (w7.setCell ⟨gx, 2, none⟩ (.int .i64 v)) from R.out.set 2 (.int .i64 v)); clear R
        have R := Lib.hid X.out; clear X
        have X := Lib.hid (ownsRow_keep (base' := w.heap.size + 1) (w' := (w7.setCell ⟨gx, 2, none⟩ (.int .i64 v))) RW.out (fun k' hk => ⟨(RW.out.lt k' hk).1, Below.heap_setCell _ _ _ _ (fun e => by have h1 := HNE.out k' hk; have e2 : k' = gx := e; omega)⟩)); clear RW
        have RW := Lib.hid X.out; clear X
        go_wp2_with (first | ((with_reducible show wpList _ _ _ ({ dst := _, op := Op.load 38 _, type := _, pos := _, after := _, guard := _ } :: _) _ _); refine wpList_load_row _ ⟨gx, 0, none⟩ rfl [.int .i64 kd, .int .i64 cl, .int .i64 v, .string (bs st), .string (bs nm), .string (bs tg), .int .i64 nn, .slice A ch.length k] agg_Cmd rfl (blk_cells R.out.cb) ?_) | ((with_reducible show wpList _ _ _ ({ dst := _, op := Op.store 38 _ _, type := _, pos := _, after := _, guard := _ } :: _) _ _); go_must (refine wpList_store_row _ w.heap.size 38 0 [.int .i64 kd, .int .i64 cl, .int .i64 v, .string (bs st), .string (bs nm), .string (bs tg), .int .i64 nn, .slice A ch.length k] [] [.int .i64 0, .int .i64 0, .int .i64 0, .string (bs []), .string (bs []), .string (bs []), .int .i64 0, .slice none 0 0] [] _ rfl rfl agg_Cmd R.out.zb rfl rfl rfl (by simp [Value.oneCell']) ?_; intro v10 hzb hzg)) | fail)
        skip
        exact bodyPost_cell rfl ⟨w.heap.size, 0, none⟩ rfl [.int .i64 kd, .int .i64 cl, .int .i64 v, .string (bs st), .string (bs nm), .string (bs tg), .int .i64 nn, .slice A ch.length k] agg_Cmd rfl (blk_cells hzb) rfl ⟨⟨⟨kd, cl, v, st, nm, tg, nn, ch⟩, _, _, rfl, small_c (by first | assumption | simp) (by assumption) (by assumption) (by omega) (by omega), cmd_mine (c := ⟨kd, cl, v, st, nm, tg, nn, ch⟩) (ownsRow_keep (base' := w.heap.size) RW.out (fun k' hk => ⟨by have h1 := (RW.out.lt k' hk).1; omega, hzg.block k' (RW.out.lt k' hk).2 (fun e => by have h1 := (RW.out.lt k' hk).1; injection e with e; omega)⟩)), R.out.cu.keep hzg (fun k hk => by injection hk with hk; omega), grown_New R.out.gr hzg (Nat.le_refl _)⟩⟩
      have b2 : ((m : Int) == 2) = false := by simp only [beq_eq_false_iff_ne]; omega
      by_cases h3 : m = 3
      · subst h3
        go_wp2_with fail
        refine (l1Pick_x B g xs _ [ [], [65], [97, 98, 99, 100, 101, 102, 103, 104], [97, 98, 99, 100, 101, 102, 103, 104, 105] ] _ 4 4 _ (R.out.alloc _).cu rfl (by omega) (by omega) (by have h1 := R.out.gb; have h2 := R.out.g1; have h3 := R.out.gl; omega) (reads_new_strs2 _ _ _ _ [ [], [65], [97, 98, 99, 100, 101, 102, 103, 104], [97, 98, 99, 100, 101, 102, 103, 104, 105] ] rfl rfl)).mono ?_
        rintro e w7 ⟨v, s7, hmem, rfl, hc1, hg1⟩
        have hv : v.length ≤ 10 := by
          clear HNE HGX HT9 H8 H12 HB6 HR R RW
          simp only [List.mem_cons, List.not_mem_nil, or_false] at hmem
          rcases hmem with rfl | rfl | rfl | rfl <;> simp
        clear hmem
        have X := Lib.hid (ownsRow_keep (base' := w.heap.size + 1) (RW.out.alloc _) (fun k' hk => ⟨(RW.out.lt k' hk).1, hg1.block k' ((RW.out.alloc _).lt k' hk).2 (fun e => by have h1 := (RW.out.lt k' hk).1; injection e with e; omega)⟩)); clear RW
        have RW := Lib.hid X.out; clear X
        have X := Lib.hid ((R.out.alloc _).call hc1 hg1); clear R hc1 hg1
        have R := Lib.hid X.out; clear X
        have f0 := R.out.cb.frozen 3
        have c1 := blk_cell0 R.out.cb 3 rfl
        have X := Lib.hid (show RSt B g xs w gx [.int .i64 kd, .int .i64 cl, .int .i64 no, .string (bs v), .string (bs nm), .string (bs tg), .int .i64 nn, .slice A ch.length k] s7 (w7.setCell ⟨gx, 3, none⟩ (.string (bs v))) from R.out.set 3 (.string (bs v))); clear R
        have R := Lib.hid X.out; clear X
        have X := Lib.hid (ownsRow_keep (base' := w.heap.size + 1) (w' := (w7.setCell ⟨gx, 3, none⟩ (.string (bs v)))) RW.out (fun k' hk => ⟨(RW.out.lt k' hk).1, Below.heap_setCell _ _ _ _ (fun e => by have h1 := HNE.out k' hk; have e2 : k' = gx := e; omega)⟩)); clear RW
        have RW := Lib.hid X.out; clear X
        go_wp2_with (first | ((with_reducible show wpList _ _ _ ({ dst := _, op := Op.load 38 _, type := _, pos := _, after := _, guard := _ } :: _) _ _); refine wpList_load_row _ ⟨gx, 0, none⟩ rfl [.int .i64 kd, .int .i64 cl, .int .i64 no, .string (bs v), .string (bs nm), .string (bs tg), .int .i64 nn, .slice A ch.length k] agg_Cmd rfl (blk_cells R.out.cb) ?_) | ((with_reducible show wpList _ _ _ ({ dst := _, op := Op.store 38 _ _, type := _, pos := _, after := _, guard := _ } :: _) _ _); go_must (refine wpList_store_row _ w.heap.size 38 0 [.int .i64 kd, .int .i64 cl, .int .i64 no, .string (bs v), .string (bs nm), .string (bs tg), .int .i64 nn, .slice A ch.length k] [] [.int .i64 0, .int .i64 0, .int .i64 0, .string (bs []), .string (bs []), .string (bs []), .int .i64 0, .slice none 0 0] [] _ rfl rfl agg_Cmd R.out.zb rfl rfl rfl (by simp [Value.oneCell']) ?_; intro v10 hzb hzg)) | fail)
        skip
        exact bodyPost_cell rfl ⟨w.heap.size, 0, none⟩ rfl [.int .i64 kd, .int .i64 cl, .int .i64 no, .string (bs v), .string (bs nm), .string (bs tg), .int .i64 nn, .slice A ch.length k] agg_Cmd rfl (blk_cells hzb) rfl ⟨⟨⟨kd, cl, no, v, nm, tg, nn, ch⟩, _, _, rfl, small_c (by first | assumption | simp) (by assumption) (by assumption) (by omega) (by omega), cmd_mine (c := ⟨kd, cl, no, v, nm, tg, nn, ch⟩) (ownsRow_keep (base' := w.heap.size) RW.out (fun k' hk => ⟨by have h1 := (RW.out.lt k' hk).1; omega, hzg.block k' (RW.out.lt k' hk).2 (fun e => by have h1 := (RW.out.lt k' hk).1; injection e with e; omega)⟩)), R.out.cu.keep hzg (fun k hk => by injection hk with hk; omega), grown_New R.out.gr hzg (Nat.le_refl _)⟩⟩
      have b3 : ((m : Int) == 3) = false := by simp only [beq_eq_false_iff_ne]; omega
      by_cases h4 : m = 4
      · subst h4
        go_wp2_with fail
        refine (l1PickInt_e B g xs _ [-1, 9, 10] _ 3 3 _ (R.out.alloc _).cu rfl (by omega) (by omega) (by have h1 := R.out.gb; have h2 := R.out.g1; have h3 := R.out.gl; omega) (reads_new_ints2 _ _ _ _ [-1, 9, 10] rfl rfl)).mono ?_
        rintro e w7 ⟨v, s7, rfl, hc1, hg1⟩
        have X := Lib.hid (ownsRow_keep (base' := w.heap.size + 1) (RW.out.alloc _) (fun k' hk => ⟨(RW.out.lt k' hk).1, hg1.block k' ((RW.out.alloc _).lt k' hk).2 (fun e => by have h1 := (RW.out.lt k' hk).1; injection e with e; omega)⟩)); clear RW
        have RW := Lib.hid X.out; clear X
        have X := Lib.hid ((R.out.alloc _).call hc1 hg1); clear R hc1 hg1
        have R := Lib.hid X.out; clear X
        have f0 := R.out.cb.frozen 6
        have c1 := blk_cell0 R.out.cb 6 rfl
        have X := Lib.hid (show RSt B g xs w gx [.int .i64 kd, .int .i64 cl, .int .i64 no, .string (bs st), .string (bs nm), .string (bs tg), .int .i64 v, .slice A ch.length k] s7 (w7.setCell ⟨gx, 6, none⟩ (.int .i64 v)) from R.out.set 6 (.int .i64 v)); clear R
        have R := Lib.hid X.out; clear X
        have X := Lib.hid (ownsRow_keep (base' := w.heap.size + 1) (w' := (w7.setCell ⟨gx, 6, none⟩ (.int .i64 v))) RW.out (fun k' hk => ⟨(RW.out.lt k' hk).1, Below.heap_setCell _ _ _ _ (fun e => by have h1 := HNE.out k' hk; have e2 : k' = gx := e; omega)⟩)); clear RW
        have RW := Lib.hid X.out; clear X
        go_wp2_with (first | ((with_reducible show wpList _ _ _ ({ dst := _, op := Op.load 38 _, type := _, pos := _, after := _, guard := _ } :: _) _ _); refine wpList_load_row _ ⟨gx, 0, none⟩ rfl [.int .i64 kd, .int .i64 cl, .int .i64 no, .string (bs st), .string (bs nm), .string (bs tg), .int .i64 v, .slice A ch.length k] agg_Cmd rfl (blk_cells R.out.cb) ?_) | ((with_reducible show wpList _ _ _ ({ dst := _, op := Op.store 38 _ _, type := _, pos := _, after := _, guard := _ } :: _) _ _); go_must (refine wpList_store_row _ w.heap.size 38 0 [.int .i64 kd, .int .i64 cl, .int .i64 no, .string (bs st), .string (bs nm), .string (bs tg), .int .i64 v, .slice A ch.length k] [] [.int .i64 0, .int .i64 0, .int .i64 0, .string (bs []), .string (bs []), .string (bs []), .int .i64 0, .slice none 0 0] [] _ rfl rfl agg_Cmd R.out.zb rfl rfl rfl (by simp [Value.oneCell']) ?_; intro v10 hzb hzg)) | fail)
        skip
        exact bodyPost_cell rfl ⟨w.heap.size, 0, none⟩ rfl [.int .i64 kd, .int .i64 cl, .int .i64 no, .string (bs st), .string (bs nm), .string (bs tg), .int .i64 v, .slice A ch.length k] agg_Cmd rfl (blk_cells hzb) rfl ⟨⟨⟨kd, cl, no, st, nm, tg, v, ch⟩, _, _, rfl, small_c (by first | assumption | simp) (by assumption) (by assumption) (by omega) (by omega), cmd_mine (c := ⟨kd, cl, no, st, nm, tg, v, ch⟩) (ownsRow_keep (base' := w.heap.size) RW.out (fun k' hk => ⟨by have h1 := (RW.out.lt k' hk).1; omega, hzg.block k' (RW.out.lt k' hk).2 (fun e => by have h1 := (RW.out.lt k' hk).1; injection e with e; omega)⟩)), R.out.cu.keep hzg (fun k hk => by injection hk with hk; omega), grown_New R.out.gr hzg (Nat.le_refl _)⟩⟩
      have b4 : ((m : Int) == 4) = false := by simp only [beq_eq_false_iff_ne]; omega
      clear h0 h1 h2 h3 h4 hm
      have hcx : w6.cell? ⟨gx, 7, none⟩ = some (.slice A ch.length k) := blk_cell0 R.out.cb 7 rfl
      go_wp2
      refine wp_region_l (fun v => v.cell? ⟨gx, 7, none⟩ = some (.slice A ch.length k)) 5 [0, 1, 2] [3, 4] [5, 6, 7] (by kernel_rfl) (by kernel_rfl) hcx ?_
      refine wpCr_bare rfl (by kernel_rfl) rfl rfl ?_; go_wp2; refine ⟨rfl, ?_⟩
      refine wpCr_step rfl (.slice A ch.length k) (fun w' hw' => run_load1 rfl rfl (fun v => load_slice (e := 9) (by kernel_rfl) v) hw') ?_
      refine wpCr_bare rfl (by kernel_rfl) rfl rfl ?_; go_wp2; refine ⟨rfl, ?_⟩
      refine wpCr_nil ?_
      refine wpCz_step rfl ?_
      go_wp2_with fail
      refine (HT9.out _ _ R.out.drew.cu).mono ?_
      rintro e w7 ⟨l, s7, hl9, rfl, hc1, hg1⟩
      have X := Lib.hid (ownsRow_keep (base' := w.heap.size + 1) RW.out.drew (fun k' hk => ⟨(RW.out.lt k' hk).1, hg1.block k' (RW.out.drew.lt k' hk).2 (fun e => by have h1 := (RW.out.lt k' hk).1; injection e with e; omega)⟩)); clear RW
      have RW := Lib.hid X.out; clear X
      have X := Lib.hid (RSt.call R.out.drew hc1 hg1); clear R hc1 hg1 hcx
      have R := Lib.hid X.out; clear X
      go_wp2_with fail
      refine ⟨blk_cell0 R.out.cb 7 rfl, ?_⟩
      refine wpCz_step rfl ?_
      go_wp2_with fail
      have X := Lib.hid (R.out.alloc (.cells #[.string (bs l)] 9)); clear R
      have R := Lib.hid X.out; clear X
      have X := Lib.hid (RW.out.alloc (.cells #[.string (bs l)] 9)); clear RW
      have RW := Lib.hid X.out; clear X
      refine ⟨blk_cell0 R.out.cb 7 rfl, ?_⟩
      refine wpCz_nil ?_
      simp only [pickOps, List.getElem?_toArray, List.getElem?_cons_succ, List.getElem?_cons_zero]
      go_wp2_with (first | (at_builtin; go_must (refine wpList_app E_str _ rfl _ _ rfl (w.heap.size + 1) _ ch.length _ rfl RW.out _ _ _ _ rfl (Reads.new rfl) (one1 rfl) (by omega) (by have h1 := R.out.gb; have h2 := R.out.g1; omega) ?_; intro vv w3 hown3 hg3 hat3; obtain ⟨Av, kv, rfl, _⟩ := SlR.of_own hown3; have hgb3 : ∀ k', (Value.slice A ch.length k).ownBlock = some k' → k' ≠ gx ∧ w.heap.size + 1 ≤ k' := (fun k' hk => ⟨by have := HNE.out k' hk; omega, (RW.out.lt k' hk).1⟩); have R3 := Lib.hid (R.out.own hg3 hgb3); have hq3 := blk_cell0 R3.out.cb 7 rfl; have hfz3 := R3.out.cb.frozen 7; have HO4 := Lib.hid hown3; have HN4 := Lib.hid (show ∀ k', (Value.slice Av (ch.length + 1) kv).ownBlock = some k' → k' ≠ gx from fun k' hk => by (rcases hat3 with h | h <;> first | exact (hgb3 k' (h.symm.trans hk)).1 | (have e := hk.symm.trans h; injection e with e; have := R.out.gb; omega))); clear hown3 hg3 hgb3 hat3)) | fail)
      refine ⟨trivial, ?_⟩
      have hchl : (ch ++ [l]).length = ch.length + 1 := by simp
      have hfl : (ch ++ [l]).flatten.length ≤ ch.flatten.length + 9 := by rw [List.flatten_append, List.length_append]; simp only [List.flatten_cons, List.flatten_nil, List.append_nil]; omega
      have X := Lib.hid (show RSt B g xs w gx [.int .i64 kd, .int .i64 cl, .int .i64 no, .string (bs st), .string (bs nm), .string (bs tg), .int .i64 nn, .slice Av (ch.length + 1) kv] s7 (w3.setCell ⟨gx, 7, none⟩ (.slice Av (ch.length + 1) kv)) from R3.out.set 7 _); clear R
      have R := Lib.hid X.out; clear X
      clear RW
      have RW := Lib.hid (show (w3.setCell ⟨gx, 7, none⟩ (.slice Av (ch.length + 1) kv)).ownsRow (w.heap.size + 1) 9 1 (.slice Av (ch.length + 1) kv) (ch.length + 1) ((ch ++ [l]).map strv) by rw [List.map_append]; exact ownsRow_keep HO4.out (fun k' hk => ⟨(HO4.out.lt k' hk).1, Below.heap_setCell _ _ _ _ (fun e => HN4.out k' hk e)⟩))
      rw [← hchl] at R RW
      obtain ⟨ch', hch'⟩ : ∃ c', c' = ch ++ [l] := ⟨_, rfl⟩
      rw [← hch'] at hchl hfl RW R
      rw [← hchl]
      go_wp2_with (first | ((with_reducible show wpList _ _ _ ({ dst := _, op := Op.load 38 _, type := _, pos := _, after := _, guard := _ } :: _) _ _); refine wpList_load_row _ ⟨gx, 0, none⟩ rfl [.int .i64 kd, .int .i64 cl, .int .i64 no, .string (bs st), .string (bs nm), .string (bs tg), .int .i64 nn, .slice Av ch'.length kv] agg_Cmd rfl (blk_cells R.out.cb) ?_) | ((with_reducible show wpList _ _ _ ({ dst := _, op := Op.store 38 _ _, type := _, pos := _, after := _, guard := _ } :: _) _ _); go_must (refine wpList_store_row _ w.heap.size 38 0 [.int .i64 kd, .int .i64 cl, .int .i64 no, .string (bs st), .string (bs nm), .string (bs tg), .int .i64 nn, .slice Av ch'.length kv] [] [.int .i64 0, .int .i64 0, .int .i64 0, .string (bs []), .string (bs []), .string (bs []), .int .i64 0, .slice none 0 0] [] _ rfl rfl agg_Cmd R.out.zb rfl rfl rfl (by simp [Value.oneCell']) ?_; intro v10 hzb hzg)) | fail)
      skip
      exact bodyPost_cell rfl ⟨w.heap.size, 0, none⟩ rfl [.int .i64 kd, .int .i64 cl, .int .i64 no, .string (bs st), .string (bs nm), .string (bs tg), .int .i64 nn, .slice Av ch'.length kv] agg_Cmd rfl (blk_cells hzb) rfl ⟨⟨⟨kd, cl, no, st, nm, tg, nn, ch'⟩, _, _, rfl, ⟨by assumption, by assumption, by assumption, by simp only []; omega, by simp only []; omega⟩, cmd_mine (c := ⟨kd, cl, no, st, nm, tg, nn, ch'⟩) (ownsRow_keep (base' := w.heap.size) RW.out (fun k' hk => ⟨by have h1 := (RW.out.lt k' hk).1; omega, hzg.block k' (RW.out.lt k' hk).2 (fun e => by have h1 := (RW.out.lt k' hk).1; injection e with e; omega)⟩)), R.out.cu.keep hzg (fun k hk => by injection hk with hk; omega), grown_New R.out.gr hzg (Nat.le_refl _)⟩⟩

end Go.Proofs.Ytinacpjelephoaa
