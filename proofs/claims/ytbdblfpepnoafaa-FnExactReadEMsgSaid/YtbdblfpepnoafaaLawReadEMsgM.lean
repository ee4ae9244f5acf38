/-
  The law on ReadEMsg holds for all arguments. No condition.
-/
import Derived.Test.YtbdblfpepnoafaaEq
import Derived.Test.YtbdblfpepnoafaaOpen
import Derived.Test.YtbdblfpepnoafaaMgF
import Derived.Test.YtbdblfpepnoafaaCntC
import Derived.Test.YtbdblfpepnoafaaMk
namespace Go.Proofs.Ytbdblfpepnoafaa
open Go.RowKit Go.ChangeShapes Go.WideShapes Go.ChangeAt
open Go.ChangeMaps (open_string)

attribute [local irreducible] markL marks mks cts EMsgD.mkT EMsgD.cntT
set_option maxRecDepth 100000 in
set_option maxHeartbeats 4000000 in
theorem lReadEMsg_all (x0 : List UInt8) (w : World) (hs0 : (x0.length : Int) ≤ 9223372036854775807) :
    Calls Try.prog 6 #[.string (bs x0)] w fun e w' => e = .returned (.bool true) ∧ Below w.heap.size w w' := by
  by_cases hl0 : x0.length ≤ 1048576
  · skip
    have hs := fun  W  => sReadEMsg_any x0  W (by omega) 
    have hi := fun  W  => iReadEMsg_any x0  W (by omega) 
    have hbd := bReadEMsg x0 (by omega)
    generalize fReadEMsg x0 = U at hs hi hbd
    obtain ⟨r0, r1⟩ := U
    simp only [] at hs hi hbd
    have Hs := Lib.hid hs; clear hs
    have Hi := Lib.hid hi; clear hi
    obtain ⟨hwt0, hcn0⟩ := hbd
    have HWT := Lib.hid hwt0
    have HCN := Lib.hid hcn0
    clear hwt0 hcn0
    go_enter Try.func6, Try.ntmps6
    go_wp2_with (fail)
    refine (Hs.out  _ ).mono ?_; rintro e v1 ⟨cs'1, rfl, hM0, hb⟩
    have Lcs1 := Lib.hid (show cs'1.length = 19 from hM0.rep.length.trans (EMsgD.width _))
    obtain ⟨F3, hnd, ho⟩ := hM0
    have N4 := Lib.hid hnd; clear hnd
    have hbs := hb.size
    have HBS := Lib.hid hbs; clear hbs
    have hws : w.heap.size ≤ (World.heap v1).size := (show Below w.heap.size w v1 from Below.trans (by repeat' (first | with_reducible exact Below.refl _ _ | with_reducible refine Below.alloc ?_ ?_ _ | (simp; done) | (simp; omega) | omega)) (hb.mono (by first | (simp; done) | (simp; omega) | omega))).size
    have BW := Lib.hid (show Below w.heap.size w v1 from Below.trans (by repeat' (first | with_reducible exact Below.refl _ _ | with_reducible refine Below.alloc ?_ ?_ _ | (simp; done) | (simp; omega) | omega)) (hb.mono (by first | (simp; done) | (simp; omega) | omega)))
    clear hb
    have O2 := Lib.hid (Own.mono ho (show w.heap.size ≤ _ from (by first | exact Nat.le_refl _ | (simp; done) | (simp; omega)))); clear ho HBS
    go_wp2_with (first | ((with_reducible show wpList _ _ _ ({ dst := _, op := Op.load 36 _, type := _, pos := _, after := _, guard := _ } :: _) _ _); refine wpList_load_row _ ⟨World.heap v1 |>.size, 0, none⟩ rfl cs'1 agg_EMsg Lcs1.out (blk_cells XB5.out) ?_) | ((with_reducible show wpList _ _ _ ({ dst := _, op := Op.store 36 _ _, type := _, pos := _, after := _, guard := _ } :: _) _ _); refine wpList_store_row _ (World.heap v1).size 36 0 cs'1 [] [.int .i64 0, .int .i64 0, .int .i64 0, .int .i64 0, .int .i64 0, .int .i64 0, .int .i64 0, .int .i64 0, .int .i64 0, .string ⟨#[]⟩, .string ⟨#[]⟩, .string ⟨#[]⟩, .int .i64 0, .slice none 0 0, .int .i64 0, .slice none 0 0, .int .i64 0, .int .i64 0, .bool false] [] _ rfl rfl (Lcs1.out ▸ agg_EMsg) (blk_new v1 _ _) rfl rfl Lcs1.out.symm O2.out.one ?_; intro v2 hsb hsg; have hb : Below (World.heap v1).size v1 v2 := Below.grown (Below.alloc (Below.refl _ _) (Nat.le_refl _) _) hsg (by simp) (fun k hk => by injection hk with hk; omega); have hsb2 : Blk v2 (World.heap v1).size 36 cs'1.toArray := (by simpa using hsb); have XB5 := Lib.hid hsb2; clear hsb hsb2 hsg; have D6 := Lib.hid (show (World.heap v1).size ∉ F3 from fun he => by have h1 := (O2.out.in _ he).2; omega); have X := Lib.hid (show Below w.heap.size w v2 from BW.out.trans (hb.mono BW.out.size)); clear BW; have BW := Lib.hid X.out; clear X; have X := Lib.hid (O2.out.below hb); clear O2; have O2 := Lib.hid X.out; clear X; clear hb) | fail)
    go_wp2_with (first | ((with_reducible show wpList _ _ _ ({ dst := _, op := Op.load 36 _, type := _, pos := _, after := _, guard := _ } :: _) _ _); refine wpList_load_row _ ⟨(World.heap v1).size, 0, none⟩ rfl cs'1 agg_EMsg Lcs1.out (blk_cells XB5.out) ?_) | ((with_reducible show wpList _ _ _ ({ dst := _, op := Op.load 36 _, type := _, pos := _, after := _, guard := _ } :: _) _ _); refine wpList_load_row_g _ (by first | rfl | kernel_rfl) ⟨(World.heap v1).size, 0, none⟩ rfl cs'1 agg_EMsg Lcs1.out (blk_cells XB5.out) ?_) | fail)
    have HSZ := Lib.hid BW.out.size
    refine (Hi.out  _ ).mono ?_; rintro e v3 ⟨cs'7, rfl, hM0, hb⟩
    have Lcs7 := Lib.hid (show cs'7.length = 19 from hM0.rep.length.trans (EMsgD.width _))
    obtain ⟨F9, hnd, ho⟩ := hM0
    have N10 := Lib.hid hnd; clear hnd
    have D11 := Lib.hid (show ∀ b ∈ F3, b ∉ F9 from fun b hb he => by have h1 := (O2.out.in b hb).2; have h2 := (ho.in b he).1; first | omega | (revert h1 h2; simp; done) | (revert h1 h2; simp; omega))
    have D12 := Lib.hid (show ∀ b ∈ F9, b ∉ F3 from fun b he hb => by have h1 := (O2.out.in b hb).2; have h2 := (ho.in b he).1; first | omega | (revert h1 h2; simp; done) | (revert h1 h2; simp; omega))
    have D13 := Lib.hid (show (World.heap v1).size ∉ F9 from fun he => by have h1 := XB5.out.lt; have h2 := (ho.in _ he).1; first | omega | (revert h1 h2; simp; done) | (revert h1 h2; simp; omega))
    have hbs := hb.size
    have HBS := Lib.hid hbs; clear hbs
    have X := Lib.hid (show Below w.heap.size w v3 from BW.out.trans (hb.mono BW.out.size)); clear BW
    have BW := Lib.hid X.out; clear X
    have X := Lib.hid (O2.out.below hb); clear O2
    have O2 := Lib.hid X.out; clear X
    have X := Lib.hid (XB5.out.below hb); clear XB5
    have XB5 := Lib.hid X.out; clear X
    clear hb
    have O8 := Lib.hid (Own.mono ho (show w.heap.size ≤ _ from HSZ.out)); clear ho HBS
    clear HSZ
    go_wp2_with (first | ((with_reducible show wpList _ _ _ ({ dst := _, op := Op.load 36 _, type := _, pos := _, after := _, guard := _ } :: _) _ _); refine wpList_load_row _ ⟨(World.heap v1).size, 0, none⟩ rfl cs'1 agg_EMsg Lcs1.out (blk_cells XB5.out) ?_) | ((with_reducible show wpList _ _ _ ({ dst := _, op := Op.load 36 _, type := _, pos := _, after := _, guard := _ } :: _) _ _); refine wpList_load_row_g _ (by first | rfl | kernel_rfl) ⟨(World.heap v1).size, 0, none⟩ rfl cs'1 agg_EMsg Lcs1.out (blk_cells XB5.out) ?_) | ((with_reducible show wpList _ _ _ ({ dst := _, op := Op.load 36 _, type := _, pos := _, after := _, guard := _ } :: _) _ _); refine wpList_load_row _ ⟨World.heap v3 |>.size, 0, none⟩ rfl cs'7 agg_EMsg Lcs7.out (blk_cells XB14.out) ?_) | ((with_reducible show wpList _ _ _ ({ dst := _, op := Op.store 36 _ _, type := _, pos := _, after := _, guard := _ } :: _) _ _); refine wpList_store_row _ (World.heap v3).size 36 0 cs'7 [] [.int .i64 0, .int .i64 0, .int .i64 0, .int .i64 0, .int .i64 0, .int .i64 0, .int .i64 0, .int .i64 0, .int .i64 0, .string ⟨#[]⟩, .string ⟨#[]⟩, .string ⟨#[]⟩, .int .i64 0, .slice none 0 0, .int .i64 0, .slice none 0 0, .int .i64 0, .int .i64 0, .bool false] [] _ rfl rfl (Lcs7.out ▸ agg_EMsg) (blk_new v3 _ _) rfl rfl Lcs7.out.symm O8.out.one ?_; intro v4 hsb hsg; have hb : Below (World.heap v3).size v3 v4 := Below.grown (Below.alloc (Below.refl _ _) (Nat.le_refl _) _) hsg (by simp) (fun k hk => by injection hk with hk; omega); have hsb2 : Blk v4 (World.heap v3).size 36 cs'7.toArray := (by simpa using hsb); have XB14 := Lib.hid hsb2; clear hsb hsb2 hsg; have D15 := Lib.hid (show (World.heap v3).size ∉ F3 from fun he => by have h1 := (O2.out.in _ he).2; omega); have D16 := Lib.hid (show (World.heap v3).size ∉ F9 from fun he => by have h1 := (O8.out.in _ he).2; omega); have X := Lib.hid (show Below w.heap.size w v4 from BW.out.trans (hb.mono BW.out.size)); clear BW; have BW := Lib.hid X.out; clear X; have X := Lib.hid (O2.out.below hb); clear O2; have O2 := Lib.hid X.out; clear X; have X := Lib.hid (O8.out.below hb); clear O8; have O8 := Lib.hid X.out; clear X; have X := Lib.hid (XB5.out.below hb); clear XB5; have XB5 := Lib.hid X.out; clear X; clear hb) | fail)
    go_wp2_with (first | ((with_reducible show wpList _ _ _ ({ dst := _, op := Op.load 36 _, type := _, pos := _, after := _, guard := _ } :: _) _ _); refine wpList_load_row _ ⟨(World.heap v1).size, 0, none⟩ rfl cs'1 agg_EMsg Lcs1.out (blk_cells XB5.out) ?_) | ((with_reducible show wpList _ _ _ ({ dst := _, op := Op.load 36 _, type := _, pos := _, after := _, guard := _ } :: _) _ _); refine wpList_load_row_g _ (by first | rfl | kernel_rfl) ⟨(World.heap v1).size, 0, none⟩ rfl cs'1 agg_EMsg Lcs1.out (blk_cells XB5.out) ?_) | ((with_reducible show wpList _ _ _ ({ dst := _, op := Op.load 36 _, type := _, pos := _, after := _, guard := _ } :: _) _ _); refine wpList_load_row _ ⟨(World.heap v3).size, 0, none⟩ rfl cs'7 agg_EMsg Lcs7.out (blk_cells XB14.out) ?_) | ((with_reducible show wpList _ _ _ ({ dst := _, op := Op.load 36 _, type := _, pos := _, after := _, guard := _ } :: _) _ _); refine wpList_load_row_g _ (by first | rfl | kernel_rfl) ⟨(World.heap v3).size, 0, none⟩ rfl cs'7 agg_EMsg Lcs7.out (blk_cells XB14.out) ?_) | fail)
    have HSZ := Lib.hid BW.out.size
    refine (eqEMsg_any r0 cs'7 cs'1 _ (by first | omega | (have := HWT.out; omega)) O8.out.repAny O2.out.repAny).mono ?_; rintro e v5 ⟨rfl, hb⟩
    have X := Lib.hid (show Below w.heap.size w v5 from BW.out.trans (hb.mono BW.out.size)); clear BW
    have BW := Lib.hid X.out; clear X
    have X := Lib.hid (O2.out.below hb); clear O2
    have O2 := Lib.hid X.out; clear X
    have X := Lib.hid (O8.out.below hb); clear O8
    have O8 := Lib.hid X.out; clear X
    have X := Lib.hid (XB5.out.below hb); clear XB5
    have XB5 := Lib.hid X.out; clear X
    have X := Lib.hid (XB14.out.below hb); clear XB14
    have XB14 := Lib.hid X.out; clear X
    clear hb
    clear HSZ
    go_wp2_with (first | ((with_reducible show wpList _ _ _ ({ dst := _, op := Op.load 36 _, type := _, pos := _, after := _, guard := _ } :: _) _ _); refine wpList_load_row _ ⟨(World.heap v1).size, 0, none⟩ rfl cs'1 agg_EMsg Lcs1.out (blk_cells XB5.out) ?_) | ((with_reducible show wpList _ _ _ ({ dst := _, op := Op.load 36 _, type := _, pos := _, after := _, guard := _ } :: _) _ _); refine wpList_load_row_g _ (by first | rfl | kernel_rfl) ⟨(World.heap v1).size, 0, none⟩ rfl cs'1 agg_EMsg Lcs1.out (blk_cells XB5.out) ?_) | ((with_reducible show wpList _ _ _ ({ dst := _, op := Op.load 36 _, type := _, pos := _, after := _, guard := _ } :: _) _ _); refine wpList_load_row _ ⟨(World.heap v3).size, 0, none⟩ rfl cs'7 agg_EMsg Lcs7.out (blk_cells XB14.out) ?_) | ((with_reducible show wpList _ _ _ ({ dst := _, op := Op.load 36 _, type := _, pos := _, after := _, guard := _ } :: _) _ _); refine wpList_load_row_g _ (by first | rfl | kernel_rfl) ⟨(World.heap v3).size, 0, none⟩ rfl cs'7 agg_EMsg Lcs7.out (blk_cells XB14.out) ?_) | fail)
    have HSZ := Lib.hid BW.out.size
    refine (markEMsg_any r0 (1) _ w.heap.size cs'7 F9 _ (by first | rfl | omega) (by omega) (by first | omega | (have := HCN.out; omega)) N10.out O8.out).mono ?_; rintro e v6 ⟨q17, rfl, hq, ho, hm⟩
    have hq0 : 0 ≤ q17 := by omega
    have HY18 := Lib.hid hq; clear hq
    have q17z := Lib.hid hq0
    have hdq17 : decide (q17 < 0) = false := by simp only [decide_eq_false_iff_not]; omega
    have X := Lib.hid (XB5.out.mod hm D13.out); clear XB5
    have XB5 := Lib.hid X.out; clear X
    have X := Lib.hid (XB14.out.mod hm D16.out); clear XB14
    have XB14 := Lib.hid X.out; clear X
    have X := Lib.hid (O2.out.mod1 hm D11.out); clear O2
    have O2 := Lib.hid X.out; clear X
    have X := Lib.hid (show Below w.heap.size w v6 from Mod.below BW.out hm BW.out.size (fun b hb => (O8.out.in b hb).1)); clear BW O8
    have BW := Lib.hid X.out; clear X
    have O8 := Lib.hid ho; clear ho hm
    clear HSZ
    go_wp2_with (first | ((with_reducible show wpList _ _ _ ({ dst := _, op := Op.load 36 _, type := _, pos := _, after := _, guard := _ } :: _) _ _); refine wpList_load_row _ ⟨(World.heap v1).size, 0, none⟩ rfl cs'1 agg_EMsg Lcs1.out (blk_cells XB5.out) ?_) | ((with_reducible show wpList _ _ _ ({ dst := _, op := Op.load 36 _, type := _, pos := _, after := _, guard := _ } :: _) _ _); refine wpList_load_row_g _ (by first | rfl | kernel_rfl) ⟨(World.heap v1).size, 0, none⟩ rfl cs'1 agg_EMsg Lcs1.out (blk_cells XB5.out) ?_) | ((with_reducible show wpList _ _ _ ({ dst := _, op := Op.load 36 _, type := _, pos := _, after := _, guard := _ } :: _) _ _); refine wpList_load_row _ ⟨(World.heap v3).size, 0, none⟩ rfl cs'7 agg_EMsg Lcs7.out (blk_cells XB14.out) ?_) | ((with_reducible show wpList _ _ _ ({ dst := _, op := Op.load 36 _, type := _, pos := _, after := _, guard := _ } :: _) _ _); refine wpList_load_row_g _ (by first | rfl | kernel_rfl) ⟨(World.heap v3).size, 0, none⟩ rfl cs'7 agg_EMsg Lcs7.out (blk_cells XB14.out) ?_) | fail)
    have HSZ := Lib.hid BW.out.size
    refine (heldEMsg_any r0 (1) _ cs'7 _ (by first | rfl | omega) (by omega) (by first | omega | (have := HCN.out; omega)) (by first | omega | (have := HWT.out; omega)) O8.out.repAny).mono ?_; rintro e v7 ⟨q19, rfl, hq, hb⟩
    have hq1 : q17 = q19 := (hq.trans HY18.out.symm).symm
    subst hq1
    clear hq
    have X := Lib.hid (show Below w.heap.size w v7 from BW.out.trans (hb.mono BW.out.size)); clear BW
    have BW := Lib.hid X.out; clear X
    have X := Lib.hid (O2.out.below hb); clear O2
    have O2 := Lib.hid X.out; clear X
    have X := Lib.hid (O8.out.below hb); clear O8
    have O8 := Lib.hid X.out; clear X
    have X := Lib.hid (XB5.out.below hb); clear XB5
    have XB5 := Lib.hid X.out; clear X
    have X := Lib.hid (XB14.out.below hb); clear XB14
    have XB14 := Lib.hid X.out; clear X
    clear hb
    clear HSZ
    go_wp2_with (first | ((with_reducible show wpList _ _ _ ({ dst := _, op := Op.load 36 _, type := _, pos := _, after := _, guard := _ } :: _) _ _); refine wpList_load_row _ ⟨(World.heap v1).size, 0, none⟩ rfl cs'1 agg_EMsg Lcs1.out (blk_cells XB5.out) ?_) | ((with_reducible show wpList _ _ _ ({ dst := _, op := Op.load 36 _, type := _, pos := _, after := _, guard := _ } :: _) _ _); refine wpList_load_row_g _ (by first | rfl | kernel_rfl) ⟨(World.heap v1).size, 0, none⟩ rfl cs'1 agg_EMsg Lcs1.out (blk_cells XB5.out) ?_) | ((with_reducible show wpList _ _ _ ({ dst := _, op := Op.load 36 _, type := _, pos := _, after := _, guard := _ } :: _) _ _); refine wpList_load_row _ ⟨(World.heap v3).size, 0, none⟩ rfl cs'7 agg_EMsg Lcs7.out (blk_cells XB14.out) ?_) | ((with_reducible show wpList _ _ _ ({ dst := _, op := Op.load 36 _, type := _, pos := _, after := _, guard := _ } :: _) _ _); refine wpList_load_row_g _ (by first | rfl | kernel_rfl) ⟨(World.heap v3).size, 0, none⟩ rfl cs'7 agg_EMsg Lcs7.out (blk_cells XB14.out) ?_) | fail)
    have HSZ := Lib.hid BW.out.size
    refine (Hi.out  _ ).mono ?_; rintro e v8 ⟨cs'20, rfl, hM0, hb⟩
    have Lcs20 := Lib.hid (show cs'20.length = 19 from hM0.rep.length.trans (EMsgD.width _))
    obtain ⟨F22, hnd, ho⟩ := hM0
    have N23 := Lib.hid hnd; clear hnd
    have D24 := Lib.hid (show ∀ b ∈ F3, b ∉ F22 from fun b hb he => by have h1 := (O2.out.in b hb).2; have h2 := (ho.in b he).1; first | omega | (revert h1 h2; simp; done) | (revert h1 h2; simp; omega))
    have D25 := Lib.hid (show ∀ b ∈ F22, b ∉ F3 from fun b he hb => by have h1 := (O2.out.in b hb).2; have h2 := (ho.in b he).1; first | omega | (revert h1 h2; simp; done) | (revert h1 h2; simp; omega))
    have D26 := Lib.hid (show ∀ b ∈ F9, b ∉ F22 from fun b hb he => by have h1 := (O8.out.in b hb).2; have h2 := (ho.in b he).1; first | omega | (revert h1 h2; simp; done) | (revert h1 h2; simp; omega))
    have D27 := Lib.hid (show ∀ b ∈ F22, b ∉ F9 from fun b he hb => by have h1 := (O8.out.in b hb).2; have h2 := (ho.in b he).1; first | omega | (revert h1 h2; simp; done) | (revert h1 h2; simp; omega))
    have D28 := Lib.hid (show (World.heap v1).size ∉ F22 from fun he => by have h1 := XB5.out.lt; have h2 := (ho.in _ he).1; first | omega | (revert h1 h2; simp; done) | (revert h1 h2; simp; omega))
    have D29 := Lib.hid (show (World.heap v3).size ∉ F22 from fun he => by have h1 := XB14.out.lt; have h2 := (ho.in _ he).1; first | omega | (revert h1 h2; simp; done) | (revert h1 h2; simp; omega))
    have hbs := hb.size
    have HBS := Lib.hid hbs; clear hbs
    have X := Lib.hid (show Below w.heap.size w v8 from BW.out.trans (hb.mono BW.out.size)); clear BW
    have BW := Lib.hid X.out; clear X
    have X := Lib.hid (O2.out.below hb); clear O2
    have O2 := Lib.hid X.out; clear X
    have X := Lib.hid (O8.out.below hb); clear O8
    have O8 := Lib.hid X.out; clear X
    have X := Lib.hid (XB5.out.below hb); clear XB5
    have XB5 := Lib.hid X.out; clear X
    have X := Lib.hid (XB14.out.below hb); clear XB14
    have XB14 := Lib.hid X.out; clear X
    clear hb
    have O21 := Lib.hid (Own.mono ho (show w.heap.size ≤ _ from HSZ.out)); clear ho HBS
    clear HSZ
    go_wp2_with (first | ((with_reducible show wpList _ _ _ ({ dst := _, op := Op.load 36 _, type := _, pos := _, after := _, guard := _ } :: _) _ _); refine wpList_load_row _ ⟨(World.heap v1).size, 0, none⟩ rfl cs'1 agg_EMsg Lcs1.out (blk_cells XB5.out) ?_) | ((with_reducible show wpList _ _ _ ({ dst := _, op := Op.load 36 _, type := _, pos := _, after := _, guard := _ } :: _) _ _); refine wpList_load_row_g _ (by first | rfl | kernel_rfl) ⟨(World.heap v1).size, 0, none⟩ rfl cs'1 agg_EMsg Lcs1.out (blk_cells XB5.out) ?_) | ((with_reducible show wpList _ _ _ ({ dst := _, op := Op.load 36 _, type := _, pos := _, after := _, guard := _ } :: _) _ _); refine wpList_load_row _ ⟨(World.heap v3).size, 0, none⟩ rfl cs'7 agg_EMsg Lcs7.out (blk_cells XB14.out) ?_) | ((with_reducible show wpList _ _ _ ({ dst := _, op := Op.load 36 _, type := _, pos := _, after := _, guard := _ } :: _) _ _); refine wpList_load_row_g _ (by first | rfl | kernel_rfl) ⟨(World.heap v3).size, 0, none⟩ rfl cs'7 agg_EMsg Lcs7.out (blk_cells XB14.out) ?_) | ((with_reducible show wpList _ _ _ ({ dst := _, op := Op.load 36 _, type := _, pos := _, after := _, guard := _ } :: _) _ _); refine wpList_load_row _ ⟨World.heap v8 |>.size, 0, none⟩ rfl cs'20 agg_EMsg Lcs20.out (blk_cells XB30.out) ?_) | ((with_reducible show wpList _ _ _ ({ dst := _, op := Op.store 36 _ _, type := _, pos := _, after := _, guard := _ } :: _) _ _); refine wpList_store_row _ (World.heap v8).size 36 0 cs'20 [] [.int .i64 0, .int .i64 0, .int .i64 0, .int .i64 0, .int .i64 0, .int .i64 0, .int .i64 0, .int .i64 0, .int .i64 0, .string ⟨#[]⟩, .string ⟨#[]⟩, .string ⟨#[]⟩, .int .i64 0, .slice none 0 0, .int .i64 0, .slice none 0 0, .int .i64 0, .int .i64 0, .bool false] [] _ rfl rfl (Lcs20.out ▸ agg_EMsg) (blk_new v8 _ _) rfl rfl Lcs20.out.symm O21.out.one ?_; intro v9 hsb hsg; have hb : Below (World.heap v8).size v8 v9 := Below.grown (Below.alloc (Below.refl _ _) (Nat.le_refl _) _) hsg (by simp) (fun k hk => by injection hk with hk; omega); have hsb2 : Blk v9 (World.heap v8).size 36 cs'20.toArray := (by simpa using hsb); have XB30 := Lib.hid hsb2; clear hsb hsb2 hsg; have D31 := Lib.hid (show (World.heap v8).size ∉ F3 from fun he => by have h1 := (O2.out.in _ he).2; omega); have D32 := Lib.hid (show (World.heap v8).size ∉ F9 from fun he => by have h1 := (O8.out.in _ he).2; omega); have D33 := Lib.hid (show (World.heap v8).size ∉ F22 from fun he => by have h1 := (O21.out.in _ he).2; omega); have X := Lib.hid (show Below w.heap.size w v9 from BW.out.trans (hb.mono BW.out.size)); clear BW; have BW := Lib.hid X.out; clear X; have X := Lib.hid (O2.out.below hb); clear O2; have O2 := Lib.hid X.out; clear X; have X := Lib.hid (O8.out.below hb); clear O8; have O8 := Lib.hid X.out; clear X; have X := Lib.hid (O21.out.below hb); clear O21; have O21 := Lib.hid X.out; clear X; have X := Lib.hid (XB5.out.below hb); clear XB5; have XB5 := Lib.hid X.out; clear X; have X := Lib.hid (XB14.out.below hb); clear XB14; have XB14 := Lib.hid X.out; clear X; clear hb) | fail)
    go_wp2_with (first | ((with_reducible show wpList _ _ _ ({ dst := _, op := Op.load 36 _, type := _, pos := _, after := _, guard := _ } :: _) _ _); refine wpList_load_row _ ⟨(World.heap v1).size, 0, none⟩ rfl cs'1 agg_EMsg Lcs1.out (blk_cells XB5.out) ?_) | ((with_reducible show wpList _ _ _ ({ dst := _, op := Op.load 36 _, type := _, pos := _, after := _, guard := _ } :: _) _ _); refine wpList_load_row_g _ (by first | rfl | kernel_rfl) ⟨(World.heap v1).size, 0, none⟩ rfl cs'1 agg_EMsg Lcs1.out (blk_cells XB5.out) ?_) | ((with_reducible show wpList _ _ _ ({ dst := _, op := Op.load 36 _, type := _, pos := _, after := _, guard := _ } :: _) _ _); refine wpList_load_row _ ⟨(World.heap v3).size, 0, none⟩ rfl cs'7 agg_EMsg Lcs7.out (blk_cells XB14.out) ?_) | ((with_reducible show wpList _ _ _ ({ dst := _, op := Op.load 36 _, type := _, pos := _, after := _, guard := _ } :: _) _ _); refine wpList_load_row_g _ (by first | rfl | kernel_rfl) ⟨(World.heap v3).size, 0, none⟩ rfl cs'7 agg_EMsg Lcs7.out (blk_cells XB14.out) ?_) | ((with_reducible show wpList _ _ _ ({ dst := _, op := Op.load 36 _, type := _, pos := _, after := _, guard := _ } :: _) _ _); refine wpList_load_row _ ⟨(World.heap v8).size, 0, none⟩ rfl cs'20 agg_EMsg Lcs20.out (blk_cells XB30.out) ?_) | ((with_reducible show wpList _ _ _ ({ dst := _, op := Op.load 36 _, type := _, pos := _, after := _, guard := _ } :: _) _ _); refine wpList_load_row_g _ (by first | rfl | kernel_rfl) ⟨(World.heap v8).size, 0, none⟩ rfl cs'20 agg_EMsg Lcs20.out (blk_cells XB30.out) ?_) | fail)
    have HSZ := Lib.hid BW.out.size
    refine (eqEMsg_any r0 cs'20 cs'1 _ (by first | omega | (have := HWT.out; omega)) O21.out.repAny O2.out.repAny).mono ?_; rintro e v10 ⟨rfl, hb⟩
    have X := Lib.hid (show Below w.heap.size w v10 from BW.out.trans (hb.mono BW.out.size)); clear BW
    have BW := Lib.hid X.out; clear X
    have X := Lib.hid (O2.out.below hb); clear O2
    have O2 := Lib.hid X.out; clear X
    have X := Lib.hid (O8.out.below hb); clear O8
    have O8 := Lib.hid X.out; clear X
    have X := Lib.hid (O21.out.below hb); clear O21
    have O21 := Lib.hid X.out; clear X
    have X := Lib.hid (XB5.out.below hb); clear XB5
    have XB5 := Lib.hid X.out; clear X
    have X := Lib.hid (XB14.out.below hb); clear XB14
    have XB14 := Lib.hid X.out; clear X
    have X := Lib.hid (XB30.out.below hb); clear XB30
    have XB30 := Lib.hid X.out; clear X
    clear hb
    clear HSZ
    go_wp2_with (first | ((with_reducible show wpList _ _ _ ({ dst := _, op := Op.load 36 _, type := _, pos := _, after := _, guard := _ } :: _) _ _); refine wpList_load_row _ ⟨(World.heap v1).size, 0, none⟩ rfl cs'1 agg_EMsg Lcs1.out (blk_cells XB5.out) ?_) | ((with_reducible show wpList _ _ _ ({ dst := _, op := Op.load 36 _, type := _, pos := _, after := _, guard := _ } :: _) _ _); refine wpList_load_row_g _ (by first | rfl | kernel_rfl) ⟨(World.heap v1).size, 0, none⟩ rfl cs'1 agg_EMsg Lcs1.out (blk_cells XB5.out) ?_) | ((with_reducible show wpList _ _ _ ({ dst := _, op := Op.load 36 _, type := _, pos := _, after := _, guard := _ } :: _) _ _); refine wpList_load_row _ ⟨(World.heap v3).size, 0, none⟩ rfl cs'7 agg_EMsg Lcs7.out (blk_cells XB14.out) ?_) | ((with_reducible show wpList _ _ _ ({ dst := _, op := Op.load 36 _, type := _, pos := _, after := _, guard := _ } :: _) _ _); refine wpList_load_row_g _ (by first | rfl | kernel_rfl) ⟨(World.heap v3).size, 0, none⟩ rfl cs'7 agg_EMsg Lcs7.out (blk_cells XB14.out) ?_) | ((with_reducible show wpList _ _ _ ({ dst := _, op := Op.load 36 _, type := _, pos := _, after := _, guard := _ } :: _) _ _); refine wpList_load_row _ ⟨(World.heap v8).size, 0, none⟩ rfl cs'20 agg_EMsg Lcs20.out (blk_cells XB30.out) ?_) | ((with_reducible show wpList _ _ _ ({ dst := _, op := Op.load 36 _, type := _, pos := _, after := _, guard := _ } :: _) _ _); refine wpList_load_row_g _ (by first | rfl | kernel_rfl) ⟨(World.heap v8).size, 0, none⟩ rfl cs'20 agg_EMsg Lcs20.out (blk_cells XB30.out) ?_) | fail)
    have HSZ := Lib.hid BW.out.size
    refine (heldEMsg_any r0 (1) _ cs'7 _ (by first | rfl | omega) (by omega) (by first | omega | (have := HCN.out; omega)) (by first | omega | (have := HWT.out; omega)) O8.out.repAny).mono ?_; rintro e v11 ⟨q34, rfl, hq, hb⟩
    have hq1 : q17 = q34 := (hq.trans HY18.out.symm).symm
    subst hq1
    clear hq
    have X := Lib.hid (show Below w.heap.size w v11 from BW.out.trans (hb.mono BW.out.size)); clear BW
    have BW := Lib.hid X.out; clear X
    have X := Lib.hid (O2.out.below hb); clear O2
    have O2 := Lib.hid X.out; clear X
    have X := Lib.hid (O8.out.below hb); clear O8
    have O8 := Lib.hid X.out; clear X
    have X := Lib.hid (O21.out.below hb); clear O21
    have O21 := Lib.hid X.out; clear X
    have X := Lib.hid (XB5.out.below hb); clear XB5
    have XB5 := Lib.hid X.out; clear X
    have X := Lib.hid (XB14.out.below hb); clear XB14
    have XB14 := Lib.hid X.out; clear X
    have X := Lib.hid (XB30.out.below hb); clear XB30
    have XB30 := Lib.hid X.out; clear X
    clear hb
    clear HSZ
    go_wp2
    go_ret
    exact ⟨ret_eq (by first | rfl | simp), BW.out⟩
  · skip
    go_enter Try.func6, Try.ntmps6
    go_wp2
    go_ret
    exact ⟨ret_eq (by first | rfl | simp), (by repeat' (first | with_reducible exact Below.refl _ _ | with_reducible refine Below.alloc ?_ ?_ _ | (simp; done) | (simp; omega) | omega))⟩
set_option maxRecDepth 100000 in
theorem FnExactReadEMsg_lifted (os : Os) (started : os.Started) (H : Type) (enc : TypeId × Value → H) :
    ReturnsInHanded {} Try.checked os 6 .any (Rows.fnExactReadEMsgSpec.pre6 enc Try.prog Try.f6 Rows.fnExactReadEMsgRow.domain false) (Rows.fnExactReadEMsgSpec.post enc Try.prog Try.f6 false true false false) := by
  refine returnsInHanded_of_change (C := Try.checked) own started (by kernel_rfl) Try.func6
    (ChangeSpec.witness6 (enc := enc) (C := Try.checked) false ⟨#[], #[.string ⟨#[]⟩], []⟩ 8 (by kernel_rfl) (by kernel_rfl) (by kernel_rfl) (by kernel_rfl)) ?_
  intro W base args ds gs before hval0 hW _ _
  have hval : ∀ (j : Nat) t v, Try.f6.params[j]? = some t → args[j]? = some v → Value.okWide Try.prog W .any base t v := hval0
  have hW' := hW
  obtain ⟨p, q, hA0, hV, rfl, hfz, hnd⟩ := hW
  have hA : DataW.TrodAll enc Try.prog W 0 (fun _ => true) true Try.f6.params.toList args.toList ds p := hA0
  rw [Try.params6] at hA hval
  obtain ⟨v0, vs0, d0, ds0, p0, q0, hargs, rfl, rfl, h0, r0⟩ := trodAll_cons hA
  obtain ⟨rfl, rfl, rfl⟩ := trodAll_nil r0
  obtain rfl : args = #[v0] := Array.ext' hargs
  obtain ⟨a0, rfl, rfl, rfl, w0⟩ := open_string Try.underlying9 (hval 0 9 v0 rfl rfl) h0
  obtain ⟨l0, rfl⟩ : ∃ l, a0 = bs l := ⟨_, bs_eta a0⟩
  refine (lReadEMsg_all l0 W (len_le w0)).mono fun e W' ⟨he, hb⟩ => ?_
  subst he
  refine ⟨_, rfl, law_post (tb := 4) laidOut (by kernel_rfl) rfl Try.underlying4 rfl ?_ hW' hb⟩
  intro ds hl
  rw [Try.params6] at hl
  match ds, hl with
  | [_], _ => rfl
theorem FnExactReadEMsg_holds : Rows.FnExactReadEMsgSaid :=
  OpenClaim.holds_of_wide 6 Try.f6 rfl rfl rfl rfl rfl rfl rfl ⟨rfl, rfl, rfl, rfl, rfl⟩ rfl rfl rfl rfl rfl (by kernel_rfl) Try.func6 (by kernel_rfl)
    (of_decide_eq_true (by kernel_rfl)) (by unfold Func.isWrapper; first | (rw [if_pos (by decide +kernel)]; kernel_rfl) | (rw [if_neg (by decide +kernel)]; exact ⟨rfl, rfl⟩))
    (fun os started H enc _ => FnExactReadEMsg_lifted os started H enc)
end Go.Proofs.Ytbdblfpepnoafaa
