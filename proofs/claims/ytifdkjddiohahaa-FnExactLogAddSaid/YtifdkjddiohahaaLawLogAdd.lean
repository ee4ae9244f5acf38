/-
  The law on LogAdd holds for all arguments. No condition.
-/
import Derived.Test.YtifdkjddiohahaaEq
import Derived.Test.YtifdkjddiohahaaOpen
import Derived.Test.YtifdkjddiohahaaLogAd
import Derived.Test.YtifdkjddiohahaaCnt
import Derived.Test.YtifdkjddiohahaaMk
namespace Go.Proofs.Ytifdkjddiohahaa
open Go.RowKit Go.ChangeShapes Go.WideShapes Go.ChangeAt
open Go.ChangeMaps (open_string)

attribute [local irreducible] markL marks mks cts LogD.mkT LogD.cntT
set_option maxRecDepth 100000 in
set_option maxHeartbeats 4000000 in
theorem lLogAdd_all (x0 : LogD) (cs0 : List Value) (x1 : List UInt8) (w : World) (hok0 : x0.c.ok) (h0 : Rep anyB w x0.c cs0) (hs1 : (x1.length : Int) ≤ 9223372036854775807) :
    Calls Try.prog 14 #[.agg cs0.toArray, .string (bs x1)] w fun e w' => e = .returned (.bool true) ∧ Below w.heap.size w w' := by
  have HL0 := Lib.hid (show cs0.length = 3 from h0.length.trans (LogD.width x0))
  have OK0 := Lib.hid hok0; clear hok0
  have A0 := Lib.hid h0; clear h0
  by_cases hl1 : x1.length ≤ 1048576
  · skip
    by_cases cc0 : ((x0.c.wt : Nat) : Int) ≤ 1048576
    · skip
      have hs := fun ds0 W g0 => sLogAdd_any x0 x1 ds0 W (by omega) (by omega) g0
      have hi := fun ds0 W g0 => iLogAdd_any x0 x1 ds0 W (by omega) (by omega) g0
      have hbd := bLogAdd x0 x1 (by omega) (by omega)
      generalize fLogAdd x0 x1 = U at hs hi hbd
      obtain ⟨r0, r1⟩ := U
      simp only [] at hs hi hbd
      have Hs := Lib.hid hs; clear hs
      have Hi := Lib.hid hi; clear hi
      obtain ⟨hwt0, hcn0⟩ := hbd
      have HWT := Lib.hid hwt0
      have HCN := Lib.hid hcn0
      clear hwt0 hcn0
      have HCX0 := Lib.hid (LogD.cntT_le x0)
      go_enter Try.func14, Try.ntmps14
      go_wp2_with (first | ((with_reducible show wpList _ _ _ ({ dst := _, op := Op.load 53 _, type := _, pos := _, after := _, guard := _ } :: _) _ _); refine wpList_load_row _ ⟨w.heap.size, 0, none⟩ rfl cs0 agg_lLog HL0.out (blk_cells (blk_new _ _ _)) ?_) | ((with_reducible show wpList _ _ _ ({ dst := _, op := Op.load 53 _, type := _, pos := _, after := _, guard := _ } :: _) _ _); refine wpList_load_row_g _ (by first | rfl | kernel_rfl) ⟨w.heap.size, 0, none⟩ rfl cs0 agg_lLog HL0.out (blk_cells (blk_new _ _ _)) ?_) | fail)
      refine (szLog_yes x0 _ cs0 _ (by omega) (by omega) OK0.out (A0.out.below (by repeat' (first | with_reducible exact Below.refl _ _ | with_reducible refine Below.alloc ?_ ?_ _ | (simp; done) | (simp; omega) | omega))) (by omega)).mono ?_; rintro e v1 ⟨q0, rfl, ⟨g0a, g0b⟩, hq, hb⟩
      have HQ0 := Lib.hid hq; clear hq
      have B0 := Lib.hid (Blk.below (blk_new _ _ _) hb)
      have BW := Lib.hid (show Below w.heap.size w v1 from Below.trans (by repeat' (first | with_reducible exact Below.refl _ _ | with_reducible refine Below.alloc ?_ ?_ _ | (simp; done) | (simp; omega) | omega)) (hb.mono (by first | (simp; done) | (simp; omega) | omega)))
      clear hb
      go_wp2_with (first | ((with_reducible show wpList _ _ _ ({ dst := _, op := Op.load 53 _, type := _, pos := _, after := _, guard := _ } :: _) _ _); refine wpList_load_row _ ⟨w.heap.size, 0, none⟩ rfl cs0 agg_lLog HL0.out (blk_cells B0.out) ?_) | ((with_reducible show wpList _ _ _ ({ dst := _, op := Op.load 53 _, type := _, pos := _, after := _, guard := _ } :: _) _ _); refine wpList_load_row_g _ (by first | rfl | kernel_rfl) ⟨w.heap.size, 0, none⟩ rfl cs0 agg_lLog HL0.out (blk_cells B0.out) ?_) | fail)
      have HSZ := Lib.hid BW.out.size
      refine (toLog_any x0 cs0 _ (by omega) (A0.out.below BW.out)).mono ?_; rintro e v2 ⟨cs'1, rfl, hM, hb⟩
      have Lcs1 := Lib.hid (show cs'1.length = 3 from hM.rep.length.trans (LogD.width _))
      obtain ⟨F3, hnd, ho⟩ := hM
      have N4 := Lib.hid hnd; clear hnd
      have D5 := Lib.hid (show w.heap.size ∉ F3 from fun he => by have h1 := (show Blk v1 _ _ _ from B0.out).lt; have h2 := (ho.in _ he).1; first | omega | (revert h1 h2; simp; done) | (revert h1 h2; simp; omega))
      have hbs := hb.size
      have HBS := Lib.hid hbs; clear hbs
      have X := Lib.hid (B0.out.below hb); clear B0
      have B0 := Lib.hid X.out; clear X
      have X := Lib.hid (show Below w.heap.size w v2 from BW.out.trans (hb.mono BW.out.size)); clear BW
      have BW := Lib.hid X.out; clear X
      clear hb
      have O2 := Lib.hid (Own.mono ho (show w.heap.size ≤ _ from HSZ.out)); clear ho HBS
      clear HSZ
      go_wp2_with (first | ((with_reducible show wpList _ _ _ ({ dst := _, op := Op.load 53 _, type := _, pos := _, after := _, guard := _ } :: _) _ _); refine wpList_load_row _ ⟨w.heap.size, 0, none⟩ rfl cs0 agg_lLog HL0.out (blk_cells B0.out) ?_) | ((with_reducible show wpList _ _ _ ({ dst := _, op := Op.load 53 _, type := _, pos := _, after := _, guard := _ } :: _) _ _); refine wpList_load_row_g _ (by first | rfl | kernel_rfl) ⟨w.heap.size, 0, none⟩ rfl cs0 agg_lLog HL0.out (blk_cells B0.out) ?_) | fail)
      have HSZ := Lib.hid BW.out.size
      refine (Hs.out cs'1 _ O2.out.repAny).mono ?_; rintro e v3 ⟨cs'6, rfl, hM0, hb⟩
      have Lcs6 := Lib.hid (show cs'6.length = 3 from hM0.rep.length.trans (LogD.width _))
      obtain ⟨F8, hnd, ho⟩ := hM0
      have N9 := Lib.hid hnd; clear hnd
      have D10 := Lib.hid (show ∀ b ∈ F3, b ∉ F8 from fun b hb he => by have h1 := (O2.out.in b hb).2; have h2 := (ho.in b he).1; first | omega | (revert h1 h2; simp; done) | (revert h1 h2; simp; omega))
      have D11 := Lib.hid (show ∀ b ∈ F8, b ∉ F3 from fun b he hb => by have h1 := (O2.out.in b hb).2; have h2 := (ho.in b he).1; first | omega | (revert h1 h2; simp; done) | (revert h1 h2; simp; omega))
      have D12 := Lib.hid (show w.heap.size ∉ F8 from fun he => by have h1 := (show Blk v2 _ _ _ from B0.out).lt; have h2 := (ho.in _ he).1; first | omega | (revert h1 h2; simp; done) | (revert h1 h2; simp; omega))
      have hbs := hb.size
      have HBS := Lib.hid hbs; clear hbs
      have X := Lib.hid (B0.out.below hb); clear B0
      have B0 := Lib.hid X.out; clear X
      have X := Lib.hid (show Below w.heap.size w v3 from BW.out.trans (hb.mono BW.out.size)); clear BW
      have BW := Lib.hid X.out; clear X
      have X := Lib.hid (O2.out.below hb); clear O2
      have O2 := Lib.hid X.out; clear X
      clear hb
      have O7 := Lib.hid (Own.mono ho (show w.heap.size ≤ _ from HSZ.out)); clear ho HBS
      clear HSZ
      go_wp2_with (first | ((with_reducible show wpList _ _ _ ({ dst := _, op := Op.load 53 _, type := _, pos := _, after := _, guard := _ } :: _) _ _); refine wpList_load_row _ ⟨w.heap.size, 0, none⟩ rfl cs0 agg_lLog HL0.out (blk_cells B0.out) ?_) | ((with_reducible show wpList _ _ _ ({ dst := _, op := Op.load 53 _, type := _, pos := _, after := _, guard := _ } :: _) _ _); refine wpList_load_row_g _ (by first | rfl | kernel_rfl) ⟨w.heap.size, 0, none⟩ rfl cs0 agg_lLog HL0.out (blk_cells B0.out) ?_) | ((with_reducible show wpList _ _ _ ({ dst := _, op := Op.load 46 _, type := _, pos := _, after := _, guard := _ } :: _) _ _); refine wpList_load_row _ ⟨World.heap v3 |>.size, 0, none⟩ rfl cs'6 agg_Log Lcs6.out (blk_cells XB13.out) ?_) | ((with_reducible show wpList _ _ _ ({ dst := _, op := Op.store 46 _ _, type := _, pos := _, after := _, guard := _ } :: _) _ _); refine wpList_store_row _ (World.heap v3).size 46 0 cs'6 [] [.slice none 0 0, .int .i64 0, .int .i64 0] [] _ rfl rfl (Lcs6.out ▸ agg_Log) (blk_new v3 _ _) rfl rfl Lcs6.out.symm O7.out.one ?_; intro v4 hsb hsg; have hb : Below (World.heap v3).size v3 v4 := Below.grown (Below.alloc (Below.refl _ _) (Nat.le_refl _) _) hsg (by simp) (fun k hk => by injection hk with hk; omega); have hsb2 : Blk v4 (World.heap v3).size 46 cs'6.toArray := (by simpa using hsb); have XB13 := Lib.hid hsb2; clear hsb hsb2 hsg; have D14 := Lib.hid (show (World.heap v3).size ∉ F3 from fun he => by have h1 := (O2.out.in _ he).2; omega); have D15 := Lib.hid (show (World.heap v3).size ∉ F8 from fun he => by have h1 := (O7.out.in _ he).2; omega); have X := Lib.hid (B0.out.below hb); clear B0; have B0 := Lib.hid X.out; clear X; have X := Lib.hid (show Below w.heap.size w v4 from BW.out.trans (hb.mono BW.out.size)); clear BW; have BW := Lib.hid X.out; clear X; have X := Lib.hid (O2.out.below hb); clear O2; have O2 := Lib.hid X.out; clear X; have X := Lib.hid (O7.out.below hb); clear O7; have O7 := Lib.hid X.out; clear X; clear hb) | fail)
      go_wp2_with (first | ((with_reducible show wpList _ _ _ ({ dst := _, op := Op.load 53 _, type := _, pos := _, after := _, guard := _ } :: _) _ _); refine wpList_load_row _ ⟨w.heap.size, 0, none⟩ rfl cs0 agg_lLog HL0.out (blk_cells B0.out) ?_) | ((with_reducible show wpList _ _ _ ({ dst := _, op := Op.load 53 _, type := _, pos := _, after := _, guard := _ } :: _) _ _); refine wpList_load_row_g _ (by first | rfl | kernel_rfl) ⟨w.heap.size, 0, none⟩ rfl cs0 agg_lLog HL0.out (blk_cells B0.out) ?_) | ((with_reducible show wpList _ _ _ ({ dst := _, op := Op.load 46 _, type := _, pos := _, after := _, guard := _ } :: _) _ _); refine wpList_load_row _ ⟨(World.heap v3).size, 0, none⟩ rfl cs'6 agg_Log Lcs6.out (blk_cells XB13.out) ?_) | ((with_reducible show wpList _ _ _ ({ dst := _, op := Op.load 46 _, type := _, pos := _, after := _, guard := _ } :: _) _ _); refine wpList_load_row_g _ (by first | rfl | kernel_rfl) ⟨(World.heap v3).size, 0, none⟩ rfl cs'6 agg_Log Lcs6.out (blk_cells XB13.out) ?_) | fail)
      have HSZ := Lib.hid BW.out.size
      refine (toLog_any x0 cs0 _ (by omega) (A0.out.below BW.out)).mono ?_; rintro e v5 ⟨cs'16, rfl, hM, hb⟩
      have Lcs16 := Lib.hid (show cs'16.length = 3 from hM.rep.length.trans (LogD.width _))
      obtain ⟨F18, hnd, ho⟩ := hM
      have N19 := Lib.hid hnd; clear hnd
      have D20 := Lib.hid (show ∀ b ∈ F3, b ∉ F18 from fun b hb he => by have h1 := (O2.out.in b hb).2; have h2 := (ho.in b he).1; first | omega | (revert h1 h2; simp; done) | (revert h1 h2; simp; omega))
      have D21 := Lib.hid (show ∀ b ∈ F18, b ∉ F3 from fun b he hb => by have h1 := (O2.out.in b hb).2; have h2 := (ho.in b he).1; first | omega | (revert h1 h2; simp; done) | (revert h1 h2; simp; omega))
      have D22 := Lib.hid (show ∀ b ∈ F8, b ∉ F18 from fun b hb he => by have h1 := (O7.out.in b hb).2; have h2 := (ho.in b he).1; first | omega | (revert h1 h2; simp; done) | (revert h1 h2; simp; omega))
      have D23 := Lib.hid (show ∀ b ∈ F18, b ∉ F8 from fun b he hb => by have h1 := (O7.out.in b hb).2; have h2 := (ho.in b he).1; first | omega | (revert h1 h2; simp; done) | (revert h1 h2; simp; omega))
      have D24 := Lib.hid (show (World.heap v3).size ∉ F18 from fun he => by have h1 := XB13.out.lt; have h2 := (ho.in _ he).1; first | omega | (revert h1 h2; simp; done) | (revert h1 h2; simp; omega))
      have D25 := Lib.hid (show w.heap.size ∉ F18 from fun he => by have h1 := (show Blk v4 _ _ _ from B0.out).lt; have h2 := (ho.in _ he).1; first | omega | (revert h1 h2; simp; done) | (revert h1 h2; simp; omega))
      have hbs := hb.size
      have HBS := Lib.hid hbs; clear hbs
      have X := Lib.hid (B0.out.below hb); clear B0
      have B0 := Lib.hid X.out; clear X
      have X := Lib.hid (show Below w.heap.size w v5 from BW.out.trans (hb.mono BW.out.size)); clear BW
      have BW := Lib.hid X.out; clear X
      have X := Lib.hid (O2.out.below hb); clear O2
      have O2 := Lib.hid X.out; clear X
      have X := Lib.hid (O7.out.below hb); clear O7
      have O7 := Lib.hid X.out; clear X
      have X := Lib.hid (XB13.out.below hb); clear XB13
      have XB13 := Lib.hid X.out; clear X
      clear hb
      have O17 := Lib.hid (Own.mono ho (show w.heap.size ≤ _ from HSZ.out)); clear ho HBS
      clear HSZ
      go_wp2_with (first | ((with_reducible show wpList _ _ _ ({ dst := _, op := Op.load 53 _, type := _, pos := _, after := _, guard := _ } :: _) _ _); refine wpList_load_row _ ⟨w.heap.size, 0, none⟩ rfl cs0 agg_lLog HL0.out (blk_cells B0.out) ?_) | ((with_reducible show wpList _ _ _ ({ dst := _, op := Op.load 53 _, type := _, pos := _, after := _, guard := _ } :: _) _ _); refine wpList_load_row_g _ (by first | rfl | kernel_rfl) ⟨w.heap.size, 0, none⟩ rfl cs0 agg_lLog HL0.out (blk_cells B0.out) ?_) | ((with_reducible show wpList _ _ _ ({ dst := _, op := Op.load 46 _, type := _, pos := _, after := _, guard := _ } :: _) _ _); refine wpList_load_row _ ⟨(World.heap v3).size, 0, none⟩ rfl cs'6 agg_Log Lcs6.out (blk_cells XB13.out) ?_) | ((with_reducible show wpList _ _ _ ({ dst := _, op := Op.load 46 _, type := _, pos := _, after := _, guard := _ } :: _) _ _); refine wpList_load_row_g _ (by first | rfl | kernel_rfl) ⟨(World.heap v3).size, 0, none⟩ rfl cs'6 agg_Log Lcs6.out (blk_cells XB13.out) ?_) | ((with_reducible show wpList _ _ _ ({ dst := _, op := Op.load 46 _, type := _, pos := _, after := _, guard := _ } :: _) _ _); refine wpList_load_row _ ⟨World.heap v5 |>.size, 0, none⟩ rfl cs'16 agg_Log Lcs16.out (blk_cells XB26.out) ?_) | ((with_reducible show wpList _ _ _ ({ dst := _, op := Op.store 46 _ _, type := _, pos := _, after := _, guard := _ } :: _) _ _); refine wpList_store_row _ (World.heap v5).size 46 0 cs'16 [] [.slice none 0 0, .int .i64 0, .int .i64 0] [] _ rfl rfl (Lcs16.out ▸ agg_Log) (blk_new v5 _ _) rfl rfl Lcs16.out.symm O17.out.one ?_; intro v6 hsb hsg; have hb : Below (World.heap v5).size v5 v6 := Below.grown (Below.alloc (Below.refl _ _) (Nat.le_refl _) _) hsg (by simp) (fun k hk => by injection hk with hk; omega); have hsb2 : Blk v6 (World.heap v5).size 46 cs'16.toArray := (by simpa using hsb); have XB26 := Lib.hid hsb2; clear hsb hsb2 hsg; have D27 := Lib.hid (show (World.heap v5).size ∉ F3 from fun he => by have h1 := (O2.out.in _ he).2; omega); have D28 := Lib.hid (show (World.heap v5).size ∉ F8 from fun he => by have h1 := (O7.out.in _ he).2; omega); have D29 := Lib.hid (show (World.heap v5).size ∉ F18 from fun he => by have h1 := (O17.out.in _ he).2; omega); have X := Lib.hid (B0.out.below hb); clear B0; have B0 := Lib.hid X.out; clear X; have X := Lib.hid (show Below w.heap.size w v6 from BW.out.trans (hb.mono BW.out.size)); clear BW; have BW := Lib.hid X.out; clear X; have X := Lib.hid (O2.out.below hb); clear O2; have O2 := Lib.hid X.out; clear X; have X := Lib.hid (O7.out.below hb); clear O7; have O7 := Lib.hid X.out; clear X; have X := Lib.hid (O17.out.below hb); clear O17; have O17 := Lib.hid X.out; clear X; have X := Lib.hid (XB13.out.below hb); clear XB13; have XB13 := Lib.hid X.out; clear X; clear hb) | fail)
      go_wp2_with (first | ((with_reducible show wpList _ _ _ ({ dst := _, op := Op.load 53 _, type := _, pos := _, after := _, guard := _ } :: _) _ _); refine wpList_load_row _ ⟨w.heap.size, 0, none⟩ rfl cs0 agg_lLog HL0.out (blk_cells B0.out) ?_) | ((with_reducible show wpList _ _ _ ({ dst := _, op := Op.load 53 _, type := _, pos := _, after := _, guard := _ } :: _) _ _); refine wpList_load_row_g _ (by first | rfl | kernel_rfl) ⟨w.heap.size, 0, none⟩ rfl cs0 agg_lLog HL0.out (blk_cells B0.out) ?_) | ((with_reducible show wpList _ _ _ ({ dst := _, op := Op.load 46 _, type := _, pos := _, after := _, guard := _ } :: _) _ _); refine wpList_load_row _ ⟨(World.heap v3).size, 0, none⟩ rfl cs'6 agg_Log Lcs6.out (blk_cells XB13.out) ?_) | ((with_reducible show wpList _ _ _ ({ dst := _, op := Op.load 46 _, type := _, pos := _, after := _, guard := _ } :: _) _ _); refine wpList_load_row_g _ (by first | rfl | kernel_rfl) ⟨(World.heap v3).size, 0, none⟩ rfl cs'6 agg_Log Lcs6.out (blk_cells XB13.out) ?_) | ((with_reducible show wpList _ _ _ ({ dst := _, op := Op.load 46 _, type := _, pos := _, after := _, guard := _ } :: _) _ _); refine wpList_load_row _ ⟨(World.heap v5).size, 0, none⟩ rfl cs'16 agg_Log Lcs16.out (blk_cells XB26.out) ?_) | ((with_reducible show wpList _ _ _ ({ dst := _, op := Op.load 46 _, type := _, pos := _, after := _, guard := _ } :: _) _ _); refine wpList_load_row_g _ (by first | rfl | kernel_rfl) ⟨(World.heap v5).size, 0, none⟩ rfl cs'16 agg_Log Lcs16.out (blk_cells XB26.out) ?_) | fail)
      have HSZ := Lib.hid BW.out.size
      refine (Hi.out cs'16 _ O17.out.repAny).mono ?_; rintro e v7 ⟨cs'30, rfl, hM0, hb⟩
      have Lcs30 := Lib.hid (show cs'30.length = 3 from hM0.rep.length.trans (LogD.width _))
      obtain ⟨F32, hnd, ho⟩ := hM0
      have N33 := Lib.hid hnd; clear hnd
      have D34 := Lib.hid (show ∀ b ∈ F3, b ∉ F32 from fun b hb he => by have h1 := (O2.out.in b hb).2; have h2 := (ho.in b he).1; first | omega | (revert h1 h2; simp; done) | (revert h1 h2; simp; omega))
      have D35 := Lib.hid (show ∀ b ∈ F32, b ∉ F3 from fun b he hb => by have h1 := (O2.out.in b hb).2; have h2 := (ho.in b he).1; first | omega | (revert h1 h2; simp; done) | (revert h1 h2; simp; omega))
      have D36 := Lib.hid (show ∀ b ∈ F8, b ∉ F32 from fun b hb he => by have h1 := (O7.out.in b hb).2; have h2 := (ho.in b he).1; first | omega | (revert h1 h2; simp; done) | (revert h1 h2; simp; omega))
      have D37 := Lib.hid (show ∀ b ∈ F32, b ∉ F8 from fun b he hb => by have h1 := (O7.out.in b hb).2; have h2 := (ho.in b he).1; first | omega | (revert h1 h2; simp; done) | (revert h1 h2; simp; omega))
      have D38 := Lib.hid (show ∀ b ∈ F18, b ∉ F32 from fun b hb he => by have h1 := (O17.out.in b hb).2; have h2 := (ho.in b he).1; first | omega | (revert h1 h2; simp; done) | (revert h1 h2; simp; omega))
      have D39 := Lib.hid (show ∀ b ∈ F32, b ∉ F18 from fun b he hb => by have h1 := (O17.out.in b hb).2; have h2 := (ho.in b he).1; first | omega | (revert h1 h2; simp; done) | (revert h1 h2; simp; omega))
      have D40 := Lib.hid (show (World.heap v3).size ∉ F32 from fun he => by have h1 := XB13.out.lt; have h2 := (ho.in _ he).1; first | omega | (revert h1 h2; simp; done) | (revert h1 h2; simp; omega))
      have D41 := Lib.hid (show (World.heap v5).size ∉ F32 from fun he => by have h1 := XB26.out.lt; have h2 := (ho.in _ he).1; first | omega | (revert h1 h2; simp; done) | (revert h1 h2; simp; omega))
      have D42 := Lib.hid (show w.heap.size ∉ F32 from fun he => by have h1 := (show Blk v6 _ _ _ from B0.out).lt; have h2 := (ho.in _ he).1; first | omega | (revert h1 h2; simp; done) | (revert h1 h2; simp; omega))
      have hbs := hb.size
      have HBS := Lib.hid hbs; clear hbs
      have X := Lib.hid (B0.out.below hb); clear B0
      have B0 := Lib.hid X.out; clear X
      have X := Lib.hid (show Below w.heap.size w v7 from BW.out.trans (hb.mono BW.out.size)); clear BW
      have BW := Lib.hid X.out; clear X
      have X := Lib.hid (O2.out.below hb); clear O2
      have O2 := Lib.hid X.out; clear X
      have X := Lib.hid (O7.out.below hb); clear O7
      have O7 := Lib.hid X.out; clear X
      have X := Lib.hid (O17.out.below hb); clear O17
      have O17 := Lib.hid X.out; clear X
      have X := Lib.hid (XB13.out.below hb); clear XB13
      have XB13 := Lib.hid X.out; clear X
      have X := Lib.hid (XB26.out.below hb); clear XB26
      have XB26 := Lib.hid X.out; clear X
      clear hb
      have O31 := Lib.hid (Own.mono ho (show w.heap.size ≤ _ from HSZ.out)); clear ho HBS
      clear HSZ
      go_wp2_with (first | ((with_reducible show wpList _ _ _ ({ dst := _, op := Op.load 53 _, type := _, pos := _, after := _, guard := _ } :: _) _ _); refine wpList_load_row _ ⟨w.heap.size, 0, none⟩ rfl cs0 agg_lLog HL0.out (blk_cells B0.out) ?_) | ((with_reducible show wpList _ _ _ ({ dst := _, op := Op.load 53 _, type := _, pos := _, after := _, guard := _ } :: _) _ _); refine wpList_load_row_g _ (by first | rfl | kernel_rfl) ⟨w.heap.size, 0, none⟩ rfl cs0 agg_lLog HL0.out (blk_cells B0.out) ?_) | ((with_reducible show wpList _ _ _ ({ dst := _, op := Op.load 46 _, type := _, pos := _, after := _, guard := _ } :: _) _ _); refine wpList_load_row _ ⟨(World.heap v3).size, 0, none⟩ rfl cs'6 agg_Log Lcs6.out (blk_cells XB13.out) ?_) | ((with_reducible show wpList _ _ _ ({ dst := _, op := Op.load 46 _, type := _, pos := _, after := _, guard := _ } :: _) _ _); refine wpList_load_row_g _ (by first | rfl | kernel_rfl) ⟨(World.heap v3).size, 0, none⟩ rfl cs'6 agg_Log Lcs6.out (blk_cells XB13.out) ?_) | ((with_reducible show wpList _ _ _ ({ dst := _, op := Op.load 46 _, type := _, pos := _, after := _, guard := _ } :: _) _ _); refine wpList_load_row _ ⟨(World.heap v5).size, 0, none⟩ rfl cs'16 agg_Log Lcs16.out (blk_cells XB26.out) ?_) | ((with_reducible show wpList _ _ _ ({ dst := _, op := Op.load 46 _, type := _, pos := _, after := _, guard := _ } :: _) _ _); refine wpList_load_row_g _ (by first | rfl | kernel_rfl) ⟨(World.heap v5).size, 0, none⟩ rfl cs'16 agg_Log Lcs16.out (blk_cells XB26.out) ?_) | ((with_reducible show wpList _ _ _ ({ dst := _, op := Op.load 46 _, type := _, pos := _, after := _, guard := _ } :: _) _ _); refine wpList_load_row _ ⟨World.heap v7 |>.size, 0, none⟩ rfl cs'30 agg_Log Lcs30.out (blk_cells XB43.out) ?_) | ((with_reducible show wpList _ _ _ ({ dst := _, op := Op.store 46 _ _, type := _, pos := _, after := _, guard := _ } :: _) _ _); refine wpList_store_row _ (World.heap v7).size 46 0 cs'30 [] [.slice none 0 0, .int .i64 0, .int .i64 0] [] _ rfl rfl (Lcs30.out ▸ agg_Log) (blk_new v7 _ _) rfl rfl Lcs30.out.symm O31.out.one ?_; intro v8 hsb hsg; have hb : Below (World.heap v7).size v7 v8 := Below.grown (Below.alloc (Below.refl _ _) (Nat.le_refl _) _) hsg (by simp) (fun k hk => by injection hk with hk; omega); have hsb2 : Blk v8 (World.heap v7).size 46 cs'30.toArray := (by simpa using hsb); have XB43 := Lib.hid hsb2; clear hsb hsb2 hsg; have D44 := Lib.hid (show (World.heap v7).size ∉ F3 from fun he => by have h1 := (O2.out.in _ he).2; omega); have D45 := Lib.hid (show (World.heap v7).size ∉ F8 from fun he => by have h1 := (O7.out.in _ he).2; omega); have D46 := Lib.hid (show (World.heap v7).size ∉ F18 from fun he => by have h1 := (O17.out.in _ he).2; omega); have D47 := Lib.hid (show (World.heap v7).size ∉ F32 from fun he => by have h1 := (O31.out.in _ he).2; omega); have X := Lib.hid (B0.out.below hb); clear B0; have B0 := Lib.hid X.out; clear X; have X := Lib.hid (show Below w.heap.size w v8 from BW.out.trans (hb.mono BW.out.size)); clear BW; have BW := Lib.hid X.out; clear X; have X := Lib.hid (O2.out.below hb); clear O2; have O2 := Lib.hid X.out; clear X; have X := Lib.hid (O7.out.below hb); clear O7; have O7 := Lib.hid X.out; clear X; have X := Lib.hid (O17.out.below hb); clear O17; have O17 := Lib.hid X.out; clear X; have X := Lib.hid (O31.out.below hb); clear O31; have O31 := Lib.hid X.out; clear X; have X := Lib.hid (XB13.out.below hb); clear XB13; have XB13 := Lib.hid X.out; clear X; have X := Lib.hid (XB26.out.below hb); clear XB26; have XB26 := Lib.hid X.out; clear X; clear hb) | fail)
      go_wp2_with (first | ((with_reducible show wpList _ _ _ ({ dst := _, op := Op.load 53 _, type := _, pos := _, after := _, guard := _ } :: _) _ _); refine wpList_load_row _ ⟨w.heap.size, 0, none⟩ rfl cs0 agg_lLog HL0.out (blk_cells B0.out) ?_) | ((with_reducible show wpList _ _ _ ({ dst := _, op := Op.load 53 _, type := _, pos := _, after := _, guard := _ } :: _) _ _); refine wpList_load_row_g _ (by first | rfl | kernel_rfl) ⟨w.heap.size, 0, none⟩ rfl cs0 agg_lLog HL0.out (blk_cells B0.out) ?_) | ((with_reducible show wpList _ _ _ ({ dst := _, op := Op.load 46 _, type := _, pos := _, after := _, guard := _ } :: _) _ _); refine wpList_load_row _ ⟨(World.heap v3).size, 0, none⟩ rfl cs'6 agg_Log Lcs6.out (blk_cells XB13.out) ?_) | ((with_reducible show wpList _ _ _ ({ dst := _, op := Op.load 46 _, type := _, pos := _, after := _, guard := _ } :: _) _ _); refine wpList_load_row_g _ (by first | rfl | kernel_rfl) ⟨(World.heap v3).size, 0, none⟩ rfl cs'6 agg_Log Lcs6.out (blk_cells XB13.out) ?_) | ((with_reducible show wpList _ _ _ ({ dst := _, op := Op.load 46 _, type := _, pos := _, after := _, guard := _ } :: _) _ _); refine wpList_load_row _ ⟨(World.heap v5).size, 0, none⟩ rfl cs'16 agg_Log Lcs16.out (blk_cells XB26.out) ?_) | ((with_reducible show wpList _ _ _ ({ dst := _, op := Op.load 46 _, type := _, pos := _, after := _, guard := _ } :: _) _ _); refine wpList_load_row_g _ (by first | rfl | kernel_rfl) ⟨(World.heap v5).size, 0, none⟩ rfl cs'16 agg_Log Lcs16.out (blk_cells XB26.out) ?_) | ((with_reducible show wpList _ _ _ ({ dst := _, op := Op.load 46 _, type := _, pos := _, after := _, guard := _ } :: _) _ _); refine wpList_load_row _ ⟨(World.heap v7).size, 0, none⟩ rfl cs'30 agg_Log Lcs30.out (blk_cells XB43.out) ?_) | ((with_reducible show wpList _ _ _ ({ dst := _, op := Op.load 46 _, type := _, pos := _, after := _, guard := _ } :: _) _ _); refine wpList_load_row_g _ (by first | rfl | kernel_rfl) ⟨(World.heap v7).size, 0, none⟩ rfl cs'30 agg_Log Lcs30.out (blk_cells XB43.out) ?_) | fail)
      have HSZ := Lib.hid BW.out.size
      refine (eqLog_any r0 cs'30 cs'6 _ (by first | omega | (have := HWT.out; omega)) O31.out.repAny O7.out.repAny).mono ?_; rintro e v9 ⟨rfl, hb⟩
      have X := Lib.hid (B0.out.below hb); clear B0
      have B0 := Lib.hid X.out; clear X
      have X := Lib.hid (show Below w.heap.size w v9 from BW.out.trans (hb.mono BW.out.size)); clear BW
      have BW := Lib.hid X.out; clear X
      have X := Lib.hid (O2.out.below hb); clear O2
      have O2 := Lib.hid X.out; clear X
      have X := Lib.hid (O7.out.below hb); clear O7
      have O7 := Lib.hid X.out; clear X
      have X := Lib.hid (O17.out.below hb); clear O17
      have O17 := Lib.hid X.out; clear X
      have X := Lib.hid (O31.out.below hb); clear O31
      have O31 := Lib.hid X.out; clear X
      have X := Lib.hid (XB13.out.below hb); clear XB13
      have XB13 := Lib.hid X.out; clear X
      have X := Lib.hid (XB26.out.below hb); clear XB26
      have XB26 := Lib.hid X.out; clear X
      have X := Lib.hid (XB43.out.below hb); clear XB43
      have XB43 := Lib.hid X.out; clear X
      clear hb
      clear HSZ
      go_wp2
      refine wp_region_x 5 [0, 1, 2, 3, 4] (by kernel_rfl) (by kernel_rfl) ?_
      refine wpX_quiet rfl (by kernel_rfl) rfl ?_; go_wp2_with (first | (refine wpList_load_row _ ⟨w.heap.size, 0, none⟩ rfl cs0 agg_lLog HL0.out (blk_cells B0.out.drew) ?_) | (refine wpList_load_row _ ⟨(World.heap v3).size, 0, none⟩ rfl cs'6 agg_Log Lcs6.out (blk_cells XB13.out.drew) ?_) | (refine wpList_load_row _ ⟨(World.heap v5).size, 0, none⟩ rfl cs'16 agg_Log Lcs16.out (blk_cells XB26.out.drew) ?_) | (refine wpList_load_row _ ⟨(World.heap v7).size, 0, none⟩ rfl cs'30 agg_Log Lcs30.out (blk_cells XB43.out.drew) ?_) | fail); refine ⟨rfl, ?_⟩
      refine wpX_quiet rfl (by kernel_rfl) rfl ?_; go_wp2_with (first | (refine wpList_load_row _ ⟨w.heap.size, 0, none⟩ rfl cs0 agg_lLog HL0.out (blk_cells B0.out.drew) ?_) | (refine wpList_load_row _ ⟨(World.heap v3).size, 0, none⟩ rfl cs'6 agg_Log Lcs6.out (blk_cells XB13.out.drew) ?_) | (refine wpList_load_row _ ⟨(World.heap v5).size, 0, none⟩ rfl cs'16 agg_Log Lcs16.out (blk_cells XB26.out.drew) ?_) | (refine wpList_load_row _ ⟨(World.heap v7).size, 0, none⟩ rfl cs'30 agg_Log Lcs30.out (blk_cells XB43.out.drew) ?_) | fail); refine ⟨rfl, ?_⟩
      refine wpX_actor rfl (by kernel_rfl) ?_
      go_wp2_with fail
      have HSZ := Lib.hid BW.out.size
      refine (toLog_any x0 cs0 _ (by omega) ((A0.out.below BW.out).drew)).mono ?_; rintro e v10 ⟨cs'48, rfl, hM, hb⟩
      have Lcs48 := Lib.hid (show cs'48.length = 3 from hM.rep.length.trans (LogD.width _))
      obtain ⟨F50, hnd, ho⟩ := hM
      have N51 := Lib.hid hnd; clear hnd
      have D52 := Lib.hid (show ∀ b ∈ F3, b ∉ F50 from fun b hb he => by have h1 := (O2.out.in b hb).2; have h2 := (ho.in b he).1; first | omega | (revert h1 h2; simp; done) | (revert h1 h2; simp; omega))
      have D53 := Lib.hid (show ∀ b ∈ F50, b ∉ F3 from fun b he hb => by have h1 := (O2.out.in b hb).2; have h2 := (ho.in b he).1; first | omega | (revert h1 h2; simp; done) | (revert h1 h2; simp; omega))
      have D54 := Lib.hid (show ∀ b ∈ F8, b ∉ F50 from fun b hb he => by have h1 := (O7.out.in b hb).2; have h2 := (ho.in b he).1; first | omega | (revert h1 h2; simp; done) | (revert h1 h2; simp; omega))
      have D55 := Lib.hid (show ∀ b ∈ F50, b ∉ F8 from fun b he hb => by have h1 := (O7.out.in b hb).2; have h2 := (ho.in b he).1; first | omega | (revert h1 h2; simp; done) | (revert h1 h2; simp; omega))
      have D56 := Lib.hid (show ∀ b ∈ F18, b ∉ F50 from fun b hb he => by have h1 := (O17.out.in b hb).2; have h2 := (ho.in b he).1; first | omega | (revert h1 h2; simp; done) | (revert h1 h2; simp; omega))
      have D57 := Lib.hid (show ∀ b ∈ F50, b ∉ F18 from fun b he hb => by have h1 := (O17.out.in b hb).2; have h2 := (ho.in b he).1; first | omega | (revert h1 h2; simp; done) | (revert h1 h2; simp; omega))
      have D58 := Lib.hid (show ∀ b ∈ F32, b ∉ F50 from fun b hb he => by have h1 := (O31.out.in b hb).2; have h2 := (ho.in b he).1; first | omega | (revert h1 h2; simp; done) | (revert h1 h2; simp; omega))
      have D59 := Lib.hid (show ∀ b ∈ F50, b ∉ F32 from fun b he hb => by have h1 := (O31.out.in b hb).2; have h2 := (ho.in b he).1; first | omega | (revert h1 h2; simp; done) | (revert h1 h2; simp; omega))
      have D60 := Lib.hid (show (World.heap v3).size ∉ F50 from fun he => by have h1 := XB13.out.lt; have h2 := (ho.in _ he).1; first | omega | (revert h1 h2; simp; done) | (revert h1 h2; simp; omega))
      have D61 := Lib.hid (show (World.heap v5).size ∉ F50 from fun he => by have h1 := XB26.out.lt; have h2 := (ho.in _ he).1; first | omega | (revert h1 h2; simp; done) | (revert h1 h2; simp; omega))
      have D62 := Lib.hid (show (World.heap v7).size ∉ F50 from fun he => by have h1 := XB43.out.lt; have h2 := (ho.in _ he).1; first | omega | (revert h1 h2; simp; done) | (revert h1 h2; simp; omega))
      have D63 := Lib.hid (show w.heap.size ∉ F50 from fun he => by have h1 := (show Blk v9 _ _ _ from B0.out).lt; have h2 := (ho.in _ he).1; first | omega | (revert h1 h2; simp; done) | (revert h1 h2; simp; omega))
      have HB := Lib.hid hb
      have hb2 := below_drewL hb; clear hb
      have hb := hb2; clear hb2
      have hbs := hb.size
      have HBS := Lib.hid hbs; clear hbs
      have X := Lib.hid (B0.out.below hb); clear B0
      have B0 := Lib.hid X.out; clear X
      have X := Lib.hid (show Below w.heap.size w v10 from BW.out.trans (hb.mono BW.out.size)); clear BW
      have BW := Lib.hid X.out; clear X
      have X := Lib.hid (O2.out.below hb); clear O2
      have O2 := Lib.hid X.out; clear X
      have X := Lib.hid (O7.out.below hb); clear O7
      have O7 := Lib.hid X.out; clear X
      have X := Lib.hid (O17.out.below hb); clear O17
      have O17 := Lib.hid X.out; clear X
      have X := Lib.hid (O31.out.below hb); clear O31
      have O31 := Lib.hid X.out; clear X
      have X := Lib.hid (XB13.out.below hb); clear XB13
      have XB13 := Lib.hid X.out; clear X
      have X := Lib.hid (XB26.out.below hb); clear XB26
      have XB26 := Lib.hid X.out; clear X
      have X := Lib.hid (XB43.out.below hb); clear XB43
      have XB43 := Lib.hid X.out; clear X
      clear hb
      have O49 := Lib.hid (Own.mono ho (show w.heap.size ≤ _ from HSZ.out)); clear ho HBS
      clear HSZ
      go_wp2
      refine ⟨Ext.of_below HB.out, ?_⟩
      clear HB
      refine wpX_actor rfl (by kernel_rfl) ?_
      go_wp2_with fail
      have HSZ := Lib.hid BW.out.size
      refine (eqLog_any x0 cs'16 cs'48 _ (by omega) O17.out.repAny O49.out.repAny).mono ?_; rintro e v11 ⟨rfl, hb⟩
      have HB := Lib.hid hb
      have X := Lib.hid (B0.out.below hb); clear B0
      have B0 := Lib.hid X.out; clear X
      have X := Lib.hid (show Below w.heap.size w v11 from BW.out.trans (hb.mono BW.out.size)); clear BW
      have BW := Lib.hid X.out; clear X
      have X := Lib.hid (O2.out.below hb); clear O2
      have O2 := Lib.hid X.out; clear X
      have X := Lib.hid (O7.out.below hb); clear O7
      have O7 := Lib.hid X.out; clear X
      have X := Lib.hid (O17.out.below hb); clear O17
      have O17 := Lib.hid X.out; clear X
      have X := Lib.hid (O31.out.below hb); clear O31
      have O31 := Lib.hid X.out; clear X
      have X := Lib.hid (O49.out.below hb); clear O49
      have O49 := Lib.hid X.out; clear X
      have X := Lib.hid (XB13.out.below hb); clear XB13
      have XB13 := Lib.hid X.out; clear X
      have X := Lib.hid (XB26.out.below hb); clear XB26
      have XB26 := Lib.hid X.out; clear X
      have X := Lib.hid (XB43.out.below hb); clear XB43
      have XB43 := Lib.hid X.out; clear X
      clear hb
      clear HSZ
      go_wp2
      refine ⟨Ext.of_below HB.out, ?_⟩
      clear HB
      refine wpX_quiet rfl (by kernel_rfl) rfl ?_; go_wp2; refine ⟨rfl, ?_⟩
      refine wpX_nil ?_
      try simp only [List.drop_succ_cons, List.drop_zero]
      go_wp2_with (first | ((with_reducible show wpList _ _ _ ({ dst := _, op := Op.load 53 _, type := _, pos := _, after := _, guard := _ } :: _) _ _); refine wpList_load_row _ ⟨w.heap.size, 0, none⟩ rfl cs0 agg_lLog HL0.out (blk_cells B0.out) ?_) | ((with_reducible show wpList _ _ _ ({ dst := _, op := Op.load 53 _, type := _, pos := _, after := _, guard := _ } :: _) _ _); refine wpList_load_row_g _ (by first | rfl | kernel_rfl) ⟨w.heap.size, 0, none⟩ rfl cs0 agg_lLog HL0.out (blk_cells B0.out) ?_) | ((with_reducible show wpList _ _ _ ({ dst := _, op := Op.load 46 _, type := _, pos := _, after := _, guard := _ } :: _) _ _); refine wpList_load_row _ ⟨(World.heap v3).size, 0, none⟩ rfl cs'6 agg_Log Lcs6.out (blk_cells XB13.out) ?_) | ((with_reducible show wpList _ _ _ ({ dst := _, op := Op.load 46 _, type := _, pos := _, after := _, guard := _ } :: _) _ _); refine wpList_load_row_g _ (by first | rfl | kernel_rfl) ⟨(World.heap v3).size, 0, none⟩ rfl cs'6 agg_Log Lcs6.out (blk_cells XB13.out) ?_) | ((with_reducible show wpList _ _ _ ({ dst := _, op := Op.load 46 _, type := _, pos := _, after := _, guard := _ } :: _) _ _); refine wpList_load_row _ ⟨(World.heap v5).size, 0, none⟩ rfl cs'16 agg_Log Lcs16.out (blk_cells XB26.out) ?_) | ((with_reducible show wpList _ _ _ ({ dst := _, op := Op.load 46 _, type := _, pos := _, after := _, guard := _ } :: _) _ _); refine wpList_load_row_g _ (by first | rfl | kernel_rfl) ⟨(World.heap v5).size, 0, none⟩ rfl cs'16 agg_Log Lcs16.out (blk_cells XB26.out) ?_) | ((with_reducible show wpList _ _ _ ({ dst := _, op := Op.load 46 _, type := _, pos := _, after := _, guard := _ } :: _) _ _); refine wpList_load_row _ ⟨(World.heap v7).size, 0, none⟩ rfl cs'30 agg_Log Lcs30.out (blk_cells XB43.out) ?_) | ((with_reducible show wpList _ _ _ ({ dst := _, op := Op.load 46 _, type := _, pos := _, after := _, guard := _ } :: _) _ _); refine wpList_load_row_g _ (by first | rfl | kernel_rfl) ⟨(World.heap v7).size, 0, none⟩ rfl cs'30 agg_Log Lcs30.out (blk_cells XB43.out) ?_) | fail)
      have HSZ := Lib.hid BW.out.size
      refine (markLog_any x0 (1) _ w.heap.size cs'16 F18 _ (by first | rfl | omega) (by omega) (by first | omega | (have := HCN.out; omega) | (have := HCX0.out; omega)) N19.out O17.out).mono ?_; rintro e v12 ⟨q64, rfl, hq, ho, hm⟩
      have hq0 : 0 ≤ q64 := by omega
      have HY65 := Lib.hid hq; clear hq
      have q64z := Lib.hid hq0
      have hdq64 : decide (q64 < 0) = false := by simp only [decide_eq_false_iff_not]; omega
      have X := Lib.hid (B0.out.mod hm D25.out); clear B0
      have B0 := Lib.hid X.out; clear X
      have X := Lib.hid (XB13.out.mod hm D24.out); clear XB13
      have XB13 := Lib.hid X.out; clear X
      have X := Lib.hid (XB26.out.mod hm D29.out); clear XB26
      have XB26 := Lib.hid X.out; clear X
      have X := Lib.hid (XB43.out.mod hm D46.out); clear XB43
      have XB43 := Lib.hid X.out; clear X
      have X := Lib.hid (O2.out.mod1 hm D20.out); clear O2
      have O2 := Lib.hid X.out; clear X
      have X := Lib.hid (O7.out.mod1 hm D22.out); clear O7
      have O7 := Lib.hid X.out; clear X
      have X := Lib.hid (O31.out.mod1 hm D39.out); clear O31
      have O31 := Lib.hid X.out; clear X
      have X := Lib.hid (O49.out.mod1 hm D57.out); clear O49
      have O49 := Lib.hid X.out; clear X
      have X := Lib.hid (show Below w.heap.size w v12 from Mod.below BW.out hm BW.out.size (fun b hb => (O17.out.in b hb).1)); clear BW O17
      have BW := Lib.hid X.out; clear X
      have O17 := Lib.hid ho; clear ho hm
      clear HSZ
      go_wp2_with (first | ((with_reducible show wpList _ _ _ ({ dst := _, op := Op.load 53 _, type := _, pos := _, after := _, guard := _ } :: _) _ _); refine wpList_load_row _ ⟨w.heap.size, 0, none⟩ rfl cs0 agg_lLog HL0.out (blk_cells B0.out) ?_) | ((with_reducible show wpList _ _ _ ({ dst := _, op := Op.load 53 _, type := _, pos := _, after := _, guard := _ } :: _) _ _); refine wpList_load_row_g _ (by first | rfl | kernel_rfl) ⟨w.heap.size, 0, none⟩ rfl cs0 agg_lLog HL0.out (blk_cells B0.out) ?_) | ((with_reducible show wpList _ _ _ ({ dst := _, op := Op.load 46 _, type := _, pos := _, after := _, guard := _ } :: _) _ _); refine wpList_load_row _ ⟨(World.heap v3).size, 0, none⟩ rfl cs'6 agg_Log Lcs6.out (blk_cells XB13.out) ?_) | ((with_reducible show wpList _ _ _ ({ dst := _, op := Op.load 46 _, type := _, pos := _, after := _, guard := _ } :: _) _ _); refine wpList_load_row_g _ (by first | rfl | kernel_rfl) ⟨(World.heap v3).size, 0, none⟩ rfl cs'6 agg_Log Lcs6.out (blk_cells XB13.out) ?_) | ((with_reducible show wpList _ _ _ ({ dst := _, op := Op.load 46 _, type := _, pos := _, after := _, guard := _ } :: _) _ _); refine wpList_load_row _ ⟨(World.heap v5).size, 0, none⟩ rfl cs'16 agg_Log Lcs16.out (blk_cells XB26.out) ?_) | ((with_reducible show wpList _ _ _ ({ dst := _, op := Op.load 46 _, type := _, pos := _, after := _, guard := _ } :: _) _ _); refine wpList_load_row_g _ (by first | rfl | kernel_rfl) ⟨(World.heap v5).size, 0, none⟩ rfl cs'16 agg_Log Lcs16.out (blk_cells XB26.out) ?_) | ((with_reducible show wpList _ _ _ ({ dst := _, op := Op.load 46 _, type := _, pos := _, after := _, guard := _ } :: _) _ _); refine wpList_load_row _ ⟨(World.heap v7).size, 0, none⟩ rfl cs'30 agg_Log Lcs30.out (blk_cells XB43.out) ?_) | ((with_reducible show wpList _ _ _ ({ dst := _, op := Op.load 46 _, type := _, pos := _, after := _, guard := _ } :: _) _ _); refine wpList_load_row_g _ (by first | rfl | kernel_rfl) ⟨(World.heap v7).size, 0, none⟩ rfl cs'30 agg_Log Lcs30.out (blk_cells XB43.out) ?_) | fail)
      have HSZ := Lib.hid BW.out.size
      refine (eqLog_any r0 cs'30 cs'6 _ (by first | omega | (have := HWT.out; omega)) O31.out.repAny O7.out.repAny).mono ?_; rintro e v13 ⟨rfl, hb⟩
      have X := Lib.hid (B0.out.below hb); clear B0
      have B0 := Lib.hid X.out; clear X
      have X := Lib.hid (show Below w.heap.size w v13 from BW.out.trans (hb.mono BW.out.size)); clear BW
      have BW := Lib.hid X.out; clear X
      have X := Lib.hid (O2.out.below hb); clear O2
      have O2 := Lib.hid X.out; clear X
      have X := Lib.hid (O7.out.below hb); clear O7
      have O7 := Lib.hid X.out; clear X
      have X := Lib.hid (O17.out.below hb); clear O17
      have O17 := Lib.hid X.out; clear X
      have X := Lib.hid (O31.out.below hb); clear O31
      have O31 := Lib.hid X.out; clear X
      have X := Lib.hid (O49.out.below hb); clear O49
      have O49 := Lib.hid X.out; clear X
      have X := Lib.hid (XB13.out.below hb); clear XB13
      have XB13 := Lib.hid X.out; clear X
      have X := Lib.hid (XB26.out.below hb); clear XB26
      have XB26 := Lib.hid X.out; clear X
      have X := Lib.hid (XB43.out.below hb); clear XB43
      have XB43 := Lib.hid X.out; clear X
      clear hb
      clear HSZ
      go_wp2_with (first | ((with_reducible show wpList _ _ _ ({ dst := _, op := Op.load 53 _, type := _, pos := _, after := _, guard := _ } :: _) _ _); refine wpList_load_row _ ⟨w.heap.size, 0, none⟩ rfl cs0 agg_lLog HL0.out (blk_cells B0.out) ?_) | ((with_reducible show wpList _ _ _ ({ dst := _, op := Op.load 53 _, type := _, pos := _, after := _, guard := _ } :: _) _ _); refine wpList_load_row_g _ (by first | rfl | kernel_rfl) ⟨w.heap.size, 0, none⟩ rfl cs0 agg_lLog HL0.out (blk_cells B0.out) ?_) | ((with_reducible show wpList _ _ _ ({ dst := _, op := Op.load 46 _, type := _, pos := _, after := _, guard := _ } :: _) _ _); refine wpList_load_row _ ⟨(World.heap v3).size, 0, none⟩ rfl cs'6 agg_Log Lcs6.out (blk_cells XB13.out) ?_) | ((with_reducible show wpList _ _ _ ({ dst := _, op := Op.load 46 _, type := _, pos := _, after := _, guard := _ } :: _) _ _); refine wpList_load_row_g _ (by first | rfl | kernel_rfl) ⟨(World.heap v3).size, 0, none⟩ rfl cs'6 agg_Log Lcs6.out (blk_cells XB13.out) ?_) | ((with_reducible show wpList _ _ _ ({ dst := _, op := Op.load 46 _, type := _, pos := _, after := _, guard := _ } :: _) _ _); refine wpList_load_row _ ⟨(World.heap v5).size, 0, none⟩ rfl cs'16 agg_Log Lcs16.out (blk_cells XB26.out) ?_) | ((with_reducible show wpList _ _ _ ({ dst := _, op := Op.load 46 _, type := _, pos := _, after := _, guard := _ } :: _) _ _); refine wpList_load_row_g _ (by first | rfl | kernel_rfl) ⟨(World.heap v5).size, 0, none⟩ rfl cs'16 agg_Log Lcs16.out (blk_cells XB26.out) ?_) | ((with_reducible show wpList _ _ _ ({ dst := _, op := Op.load 46 _, type := _, pos := _, after := _, guard := _ } :: _) _ _); refine wpList_load_row _ ⟨(World.heap v7).size, 0, none⟩ rfl cs'30 agg_Log Lcs30.out (blk_cells XB43.out) ?_) | ((with_reducible show wpList _ _ _ ({ dst := _, op := Op.load 46 _, type := _, pos := _, after := _, guard := _ } :: _) _ _); refine wpList_load_row_g _ (by first | rfl | kernel_rfl) ⟨(World.heap v7).size, 0, none⟩ rfl cs'30 agg_Log Lcs30.out (blk_cells XB43.out) ?_) | fail)
      have HSZ := Lib.hid BW.out.size
      refine (markLog_any r0 (1) _ w.heap.size cs'30 F32 _ (by first | rfl | omega) (by omega) (by first | omega | (have := HCN.out; omega) | (have := HCX0.out; omega)) N33.out O31.out).mono ?_; rintro e v14 ⟨q66, rfl, hq, ho, hm⟩
      have hq0 : 0 ≤ q66 := by omega
      have HY67 := Lib.hid hq; clear hq
      have q66z := Lib.hid hq0
      have hdq66 : decide (q66 < 0) = false := by simp only [decide_eq_false_iff_not]; omega
      have X := Lib.hid (B0.out.mod hm D42.out); clear B0
      have B0 := Lib.hid X.out; clear X
      have X := Lib.hid (XB13.out.mod hm D40.out); clear XB13
      have XB13 := Lib.hid X.out; clear X
      have X := Lib.hid (XB26.out.mod hm D41.out); clear XB26
      have XB26 := Lib.hid X.out; clear X
      have X := Lib.hid (XB43.out.mod hm D47.out); clear XB43
      have XB43 := Lib.hid X.out; clear X
      have X := Lib.hid (O2.out.mod1 hm D34.out); clear O2
      have O2 := Lib.hid X.out; clear X
      have X := Lib.hid (O7.out.mod1 hm D36.out); clear O7
      have O7 := Lib.hid X.out; clear X
      have X := Lib.hid (O17.out.mod1 hm D38.out); clear O17
      have O17 := Lib.hid X.out; clear X
      have X := Lib.hid (O49.out.mod1 hm D59.out); clear O49
      have O49 := Lib.hid X.out; clear X
      have X := Lib.hid (show Below w.heap.size w v14 from Mod.below BW.out hm BW.out.size (fun b hb => (O31.out.in b hb).1)); clear BW O31
      have BW := Lib.hid X.out; clear X
      have O31 := Lib.hid ho; clear ho hm
      clear HSZ
      go_wp2_with (first | ((with_reducible show wpList _ _ _ ({ dst := _, op := Op.load 53 _, type := _, pos := _, after := _, guard := _ } :: _) _ _); refine wpList_load_row _ ⟨w.heap.size, 0, none⟩ rfl cs0 agg_lLog HL0.out (blk_cells B0.out) ?_) | ((with_reducible show wpList _ _ _ ({ dst := _, op := Op.load 53 _, type := _, pos := _, after := _, guard := _ } :: _) _ _); refine wpList_load_row_g _ (by first | rfl | kernel_rfl) ⟨w.heap.size, 0, none⟩ rfl cs0 agg_lLog HL0.out (blk_cells B0.out) ?_) | ((with_reducible show wpList _ _ _ ({ dst := _, op := Op.load 46 _, type := _, pos := _, after := _, guard := _ } :: _) _ _); refine wpList_load_row _ ⟨(World.heap v3).size, 0, none⟩ rfl cs'6 agg_Log Lcs6.out (blk_cells XB13.out) ?_) | ((with_reducible show wpList _ _ _ ({ dst := _, op := Op.load 46 _, type := _, pos := _, after := _, guard := _ } :: _) _ _); refine wpList_load_row_g _ (by first | rfl | kernel_rfl) ⟨(World.heap v3).size, 0, none⟩ rfl cs'6 agg_Log Lcs6.out (blk_cells XB13.out) ?_) | ((with_reducible show wpList _ _ _ ({ dst := _, op := Op.load 46 _, type := _, pos := _, after := _, guard := _ } :: _) _ _); refine wpList_load_row _ ⟨(World.heap v5).size, 0, none⟩ rfl cs'16 agg_Log Lcs16.out (blk_cells XB26.out) ?_) | ((with_reducible show wpList _ _ _ ({ dst := _, op := Op.load 46 _, type := _, pos := _, after := _, guard := _ } :: _) _ _); refine wpList_load_row_g _ (by first | rfl | kernel_rfl) ⟨(World.heap v5).size, 0, none⟩ rfl cs'16 agg_Log Lcs16.out (blk_cells XB26.out) ?_) | ((with_reducible show wpList _ _ _ ({ dst := _, op := Op.load 46 _, type := _, pos := _, after := _, guard := _ } :: _) _ _); refine wpList_load_row _ ⟨(World.heap v7).size, 0, none⟩ rfl cs'30 agg_Log Lcs30.out (blk_cells XB43.out) ?_) | ((with_reducible show wpList _ _ _ ({ dst := _, op := Op.load 46 _, type := _, pos := _, after := _, guard := _ } :: _) _ _); refine wpList_load_row_g _ (by first | rfl | kernel_rfl) ⟨(World.heap v7).size, 0, none⟩ rfl cs'30 agg_Log Lcs30.out (blk_cells XB43.out) ?_) | fail)
      have HSZ := Lib.hid BW.out.size
      refine (heldLog_any r0 (1) _ cs'30 _ (by first | rfl | omega) (by omega) (by first | omega | (have := HCN.out; omega)) (by first | omega | (have := HWT.out; omega)) O31.out.repAny).mono ?_; rintro e v15 ⟨q68, rfl, hq, hb⟩
      have hq1 : q66 = q68 := (hq.trans HY67.out.symm).symm
      subst hq1
      clear hq
      have X := Lib.hid (B0.out.below hb); clear B0
      have B0 := Lib.hid X.out; clear X
      have X := Lib.hid (show Below w.heap.size w v15 from BW.out.trans (hb.mono BW.out.size)); clear BW
      have BW := Lib.hid X.out; clear X
      have X := Lib.hid (O2.out.below hb); clear O2
      have O2 := Lib.hid X.out; clear X
      have X := Lib.hid (O7.out.below hb); clear O7
      have O7 := Lib.hid X.out; clear X
      have X := Lib.hid (O17.out.below hb); clear O17
      have O17 := Lib.hid X.out; clear X
      have X := Lib.hid (O31.out.below hb); clear O31
      have O31 := Lib.hid X.out; clear X
      have X := Lib.hid (O49.out.below hb); clear O49
      have O49 := Lib.hid X.out; clear X
      have X := Lib.hid (XB13.out.below hb); clear XB13
      have XB13 := Lib.hid X.out; clear X
      have X := Lib.hid (XB26.out.below hb); clear XB26
      have XB26 := Lib.hid X.out; clear X
      have X := Lib.hid (XB43.out.below hb); clear XB43
      have XB43 := Lib.hid X.out; clear X
      clear hb
      clear HSZ
      go_wp2_with (first | ((with_reducible show wpList _ _ _ ({ dst := _, op := Op.load 53 _, type := _, pos := _, after := _, guard := _ } :: _) _ _); refine wpList_load_row _ ⟨w.heap.size, 0, none⟩ rfl cs0 agg_lLog HL0.out (blk_cells B0.out) ?_) | ((with_reducible show wpList _ _ _ ({ dst := _, op := Op.load 53 _, type := _, pos := _, after := _, guard := _ } :: _) _ _); refine wpList_load_row_g _ (by first | rfl | kernel_rfl) ⟨w.heap.size, 0, none⟩ rfl cs0 agg_lLog HL0.out (blk_cells B0.out) ?_) | ((with_reducible show wpList _ _ _ ({ dst := _, op := Op.load 46 _, type := _, pos := _, after := _, guard := _ } :: _) _ _); refine wpList_load_row _ ⟨(World.heap v3).size, 0, none⟩ rfl cs'6 agg_Log Lcs6.out (blk_cells XB13.out) ?_) | ((with_reducible show wpList _ _ _ ({ dst := _, op := Op.load 46 _, type := _, pos := _, after := _, guard := _ } :: _) _ _); refine wpList_load_row_g _ (by first | rfl | kernel_rfl) ⟨(World.heap v3).size, 0, none⟩ rfl cs'6 agg_Log Lcs6.out (blk_cells XB13.out) ?_) | ((with_reducible show wpList _ _ _ ({ dst := _, op := Op.load 46 _, type := _, pos := _, after := _, guard := _ } :: _) _ _); refine wpList_load_row _ ⟨(World.heap v5).size, 0, none⟩ rfl cs'16 agg_Log Lcs16.out (blk_cells XB26.out) ?_) | ((with_reducible show wpList _ _ _ ({ dst := _, op := Op.load 46 _, type := _, pos := _, after := _, guard := _ } :: _) _ _); refine wpList_load_row_g _ (by first | rfl | kernel_rfl) ⟨(World.heap v5).size, 0, none⟩ rfl cs'16 agg_Log Lcs16.out (blk_cells XB26.out) ?_) | ((with_reducible show wpList _ _ _ ({ dst := _, op := Op.load 46 _, type := _, pos := _, after := _, guard := _ } :: _) _ _); refine wpList_load_row _ ⟨(World.heap v7).size, 0, none⟩ rfl cs'30 agg_Log Lcs30.out (blk_cells XB43.out) ?_) | ((with_reducible show wpList _ _ _ ({ dst := _, op := Op.load 46 _, type := _, pos := _, after := _, guard := _ } :: _) _ _); refine wpList_load_row_g _ (by first | rfl | kernel_rfl) ⟨(World.heap v7).size, 0, none⟩ rfl cs'30 agg_Log Lcs30.out (blk_cells XB43.out) ?_) | fail)
      have HSZ := Lib.hid BW.out.size
      refine (toLog_any x0 cs0 _ (by omega) (A0.out.below BW.out)).mono ?_; rintro e v16 ⟨cs'69, rfl, hM, hb⟩
      have Lcs69 := Lib.hid (show cs'69.length = 3 from hM.rep.length.trans (LogD.width _))
      obtain ⟨F71, hnd, ho⟩ := hM
      have N72 := Lib.hid hnd; clear hnd
      have D73 := Lib.hid (show ∀ b ∈ F3, b ∉ F71 from fun b hb he => by have h1 := (O2.out.in b hb).2; have h2 := (ho.in b he).1; first | omega | (revert h1 h2; simp; done) | (revert h1 h2; simp; omega))
      have D74 := Lib.hid (show ∀ b ∈ F71, b ∉ F3 from fun b he hb => by have h1 := (O2.out.in b hb).2; have h2 := (ho.in b he).1; first | omega | (revert h1 h2; simp; done) | (revert h1 h2; simp; omega))
      have D75 := Lib.hid (show ∀ b ∈ F8, b ∉ F71 from fun b hb he => by have h1 := (O7.out.in b hb).2; have h2 := (ho.in b he).1; first | omega | (revert h1 h2; simp; done) | (revert h1 h2; simp; omega))
      have D76 := Lib.hid (show ∀ b ∈ F71, b ∉ F8 from fun b he hb => by have h1 := (O7.out.in b hb).2; have h2 := (ho.in b he).1; first | omega | (revert h1 h2; simp; done) | (revert h1 h2; simp; omega))
      have D77 := Lib.hid (show ∀ b ∈ F18, b ∉ F71 from fun b hb he => by have h1 := (O17.out.in b hb).2; have h2 := (ho.in b he).1; first | omega | (revert h1 h2; simp; done) | (revert h1 h2; simp; omega))
      have D78 := Lib.hid (show ∀ b ∈ F71, b ∉ F18 from fun b he hb => by have h1 := (O17.out.in b hb).2; have h2 := (ho.in b he).1; first | omega | (revert h1 h2; simp; done) | (revert h1 h2; simp; omega))
      have D79 := Lib.hid (show ∀ b ∈ F32, b ∉ F71 from fun b hb he => by have h1 := (O31.out.in b hb).2; have h2 := (ho.in b he).1; first | omega | (revert h1 h2; simp; done) | (revert h1 h2; simp; omega))
      have D80 := Lib.hid (show ∀ b ∈ F71, b ∉ F32 from fun b he hb => by have h1 := (O31.out.in b hb).2; have h2 := (ho.in b he).1; first | omega | (revert h1 h2; simp; done) | (revert h1 h2; simp; omega))
      have D81 := Lib.hid (show ∀ b ∈ F50, b ∉ F71 from fun b hb he => by have h1 := (O49.out.in b hb).2; have h2 := (ho.in b he).1; first | omega | (revert h1 h2; simp; done) | (revert h1 h2; simp; omega))
      have D82 := Lib.hid (show ∀ b ∈ F71, b ∉ F50 from fun b he hb => by have h1 := (O49.out.in b hb).2; have h2 := (ho.in b he).1; first | omega | (revert h1 h2; simp; done) | (revert h1 h2; simp; omega))
      have D83 := Lib.hid (show (World.heap v3).size ∉ F71 from fun he => by have h1 := XB13.out.lt; have h2 := (ho.in _ he).1; first | omega | (revert h1 h2; simp; done) | (revert h1 h2; simp; omega))
      have D84 := Lib.hid (show (World.heap v5).size ∉ F71 from fun he => by have h1 := XB26.out.lt; have h2 := (ho.in _ he).1; first | omega | (revert h1 h2; simp; done) | (revert h1 h2; simp; omega))
      have D85 := Lib.hid (show (World.heap v7).size ∉ F71 from fun he => by have h1 := XB43.out.lt; have h2 := (ho.in _ he).1; first | omega | (revert h1 h2; simp; done) | (revert h1 h2; simp; omega))
      have D86 := Lib.hid (show w.heap.size ∉ F71 from fun he => by have h1 := (show Blk v15 _ _ _ from B0.out).lt; have h2 := (ho.in _ he).1; first | omega | (revert h1 h2; simp; done) | (revert h1 h2; simp; omega))
      have hbs := hb.size
      have HBS := Lib.hid hbs; clear hbs
      have X := Lib.hid (B0.out.below hb); clear B0
      have B0 := Lib.hid X.out; clear X
      have X := Lib.hid (show Below w.heap.size w v16 from BW.out.trans (hb.mono BW.out.size)); clear BW
      have BW := Lib.hid X.out; clear X
      have X := Lib.hid (O2.out.below hb); clear O2
      have O2 := Lib.hid X.out; clear X
      have X := Lib.hid (O7.out.below hb); clear O7
      have O7 := Lib.hid X.out; clear X
      have X := Lib.hid (O17.out.below hb); clear O17
      have O17 := Lib.hid X.out; clear X
      have X := Lib.hid (O31.out.below hb); clear O31
      have O31 := Lib.hid X.out; clear X
      have X := Lib.hid (O49.out.below hb); clear O49
      have O49 := Lib.hid X.out; clear X
      have X := Lib.hid (XB13.out.below hb); clear XB13
      have XB13 := Lib.hid X.out; clear X
      have X := Lib.hid (XB26.out.below hb); clear XB26
      have XB26 := Lib.hid X.out; clear X
      have X := Lib.hid (XB43.out.below hb); clear XB43
      have XB43 := Lib.hid X.out; clear X
      clear hb
      have O70 := Lib.hid (Own.mono ho (show w.heap.size ≤ _ from HSZ.out)); clear ho HBS
      clear HSZ
      go_wp2_with (first | ((with_reducible show wpList _ _ _ ({ dst := _, op := Op.load 53 _, type := _, pos := _, after := _, guard := _ } :: _) _ _); refine wpList_load_row _ ⟨w.heap.size, 0, none⟩ rfl cs0 agg_lLog HL0.out (blk_cells B0.out) ?_) | ((with_reducible show wpList _ _ _ ({ dst := _, op := Op.load 53 _, type := _, pos := _, after := _, guard := _ } :: _) _ _); refine wpList_load_row_g _ (by first | rfl | kernel_rfl) ⟨w.heap.size, 0, none⟩ rfl cs0 agg_lLog HL0.out (blk_cells B0.out) ?_) | ((with_reducible show wpList _ _ _ ({ dst := _, op := Op.load 46 _, type := _, pos := _, after := _, guard := _ } :: _) _ _); refine wpList_load_row _ ⟨(World.heap v3).size, 0, none⟩ rfl cs'6 agg_Log Lcs6.out (blk_cells XB13.out) ?_) | ((with_reducible show wpList _ _ _ ({ dst := _, op := Op.load 46 _, type := _, pos := _, after := _, guard := _ } :: _) _ _); refine wpList_load_row_g _ (by first | rfl | kernel_rfl) ⟨(World.heap v3).size, 0, none⟩ rfl cs'6 agg_Log Lcs6.out (blk_cells XB13.out) ?_) | ((with_reducible show wpList _ _ _ ({ dst := _, op := Op.load 46 _, type := _, pos := _, after := _, guard := _ } :: _) _ _); refine wpList_load_row _ ⟨(World.heap v5).size, 0, none⟩ rfl cs'16 agg_Log Lcs16.out (blk_cells XB26.out) ?_) | ((with_reducible show wpList _ _ _ ({ dst := _, op := Op.load 46 _, type := _, pos := _, after := _, guard := _ } :: _) _ _); refine wpList_load_row_g _ (by first | rfl | kernel_rfl) ⟨(World.heap v5).size, 0, none⟩ rfl cs'16 agg_Log Lcs16.out (blk_cells XB26.out) ?_) | ((with_reducible show wpList _ _ _ ({ dst := _, op := Op.load 46 _, type := _, pos := _, after := _, guard := _ } :: _) _ _); refine wpList_load_row _ ⟨(World.heap v7).size, 0, none⟩ rfl cs'30 agg_Log Lcs30.out (blk_cells XB43.out) ?_) | ((with_reducible show wpList _ _ _ ({ dst := _, op := Op.load 46 _, type := _, pos := _, after := _, guard := _ } :: _) _ _); refine wpList_load_row_g _ (by first | rfl | kernel_rfl) ⟨(World.heap v7).size, 0, none⟩ rfl cs'30 agg_Log Lcs30.out (blk_cells XB43.out) ?_) | fail)
      have HSZ := Lib.hid BW.out.size
      refine (Hi.out cs'69 _ O70.out.repAny).mono ?_; rintro e v17 ⟨cs'87, rfl, hM0, hb⟩
      have Lcs87 := Lib.hid (show cs'87.length = 3 from hM0.rep.length.trans (LogD.width _))
      obtain ⟨F89, hnd, ho⟩ := hM0
      have N90 := Lib.hid hnd; clear hnd
      have D91 := Lib.hid (show ∀ b ∈ F3, b ∉ F89 from fun b hb he => by have h1 := (O2.out.in b hb).2; have h2 := (ho.in b he).1; first | omega | (revert h1 h2; simp; done) | (revert h1 h2; simp; omega))
      have D92 := Lib.hid (show ∀ b ∈ F89, b ∉ F3 from fun b he hb => by have h1 := (O2.out.in b hb).2; have h2 := (ho.in b he).1; first | omega | (revert h1 h2; simp; done) | (revert h1 h2; simp; omega))
      have D93 := Lib.hid (show ∀ b ∈ F8, b ∉ F89 from fun b hb he => by have h1 := (O7.out.in b hb).2; have h2 := (ho.in b he).1; first | omega | (revert h1 h2; simp; done) | (revert h1 h2; simp; omega))
      have D94 := Lib.hid (show ∀ b ∈ F89, b ∉ F8 from fun b he hb => by have h1 := (O7.out.in b hb).2; have h2 := (ho.in b he).1; first | omega | (revert h1 h2; simp; done) | (revert h1 h2; simp; omega))
      have D95 := Lib.hid (show ∀ b ∈ F18, b ∉ F89 from fun b hb he => by have h1 := (O17.out.in b hb).2; have h2 := (ho.in b he).1; first | omega | (revert h1 h2; simp; done) | (revert h1 h2; simp; omega))
      have D96 := Lib.hid (show ∀ b ∈ F89, b ∉ F18 from fun b he hb => by have h1 := (O17.out.in b hb).2; have h2 := (ho.in b he).1; first | omega | (revert h1 h2; simp; done) | (revert h1 h2; simp; omega))
      have D97 := Lib.hid (show ∀ b ∈ F32, b ∉ F89 from fun b hb he => by have h1 := (O31.out.in b hb).2; have h2 := (ho.in b he).1; first | omega | (revert h1 h2; simp; done) | (revert h1 h2; simp; omega))
      have D98 := Lib.hid (show ∀ b ∈ F89, b ∉ F32 from fun b he hb => by have h1 := (O31.out.in b hb).2; have h2 := (ho.in b he).1; first | omega | (revert h1 h2; simp; done) | (revert h1 h2; simp; omega))
      have D99 := Lib.hid (show ∀ b ∈ F50, b ∉ F89 from fun b hb he => by have h1 := (O49.out.in b hb).2; have h2 := (ho.in b he).1; first | omega | (revert h1 h2; simp; done) | (revert h1 h2; simp; omega))
      have D100 := Lib.hid (show ∀ b ∈ F89, b ∉ F50 from fun b he hb => by have h1 := (O49.out.in b hb).2; have h2 := (ho.in b he).1; first | omega | (revert h1 h2; simp; done) | (revert h1 h2; simp; omega))
      have D101 := Lib.hid (show ∀ b ∈ F71, b ∉ F89 from fun b hb he => by have h1 := (O70.out.in b hb).2; have h2 := (ho.in b he).1; first | omega | (revert h1 h2; simp; done) | (revert h1 h2; simp; omega))
      have D102 := Lib.hid (show ∀ b ∈ F89, b ∉ F71 from fun b he hb => by have h1 := (O70.out.in b hb).2; have h2 := (ho.in b he).1; first | omega | (revert h1 h2; simp; done) | (revert h1 h2; simp; omega))
      have D103 := Lib.hid (show (World.heap v3).size ∉ F89 from fun he => by have h1 := XB13.out.lt; have h2 := (ho.in _ he).1; first | omega | (revert h1 h2; simp; done) | (revert h1 h2; simp; omega))
      have D104 := Lib.hid (show (World.heap v5).size ∉ F89 from fun he => by have h1 := XB26.out.lt; have h2 := (ho.in _ he).1; first | omega | (revert h1 h2; simp; done) | (revert h1 h2; simp; omega))
      have D105 := Lib.hid (show (World.heap v7).size ∉ F89 from fun he => by have h1 := XB43.out.lt; have h2 := (ho.in _ he).1; first | omega | (revert h1 h2; simp; done) | (revert h1 h2; simp; omega))
      have D106 := Lib.hid (show w.heap.size ∉ F89 from fun he => by have h1 := (show Blk v16 _ _ _ from B0.out).lt; have h2 := (ho.in _ he).1; first | omega | (revert h1 h2; simp; done) | (revert h1 h2; simp; omega))
      have hbs := hb.size
      have HBS := Lib.hid hbs; clear hbs
      have X := Lib.hid (B0.out.below hb); clear B0
      have B0 := Lib.hid X.out; clear X
      have X := Lib.hid (show Below w.heap.size w v17 from BW.out.trans (hb.mono BW.out.size)); clear BW
      have BW := Lib.hid X.out; clear X
      have X := Lib.hid (O2.out.below hb); clear O2
      have O2 := Lib.hid X.out; clear X
      have X := Lib.hid (O7.out.below hb); clear O7
      have O7 := Lib.hid X.out; clear X
      have X := Lib.hid (O17.out.below hb); clear O17
      have O17 := Lib.hid X.out; clear X
      have X := Lib.hid (O31.out.below hb); clear O31
      have O31 := Lib.hid X.out; clear X
      have X := Lib.hid (O49.out.below hb); clear O49
      have O49 := Lib.hid X.out; clear X
      have X := Lib.hid (O70.out.below hb); clear O70
      have O70 := Lib.hid X.out; clear X
      have X := Lib.hid (XB13.out.below hb); clear XB13
      have XB13 := Lib.hid X.out; clear X
      have X := Lib.hid (XB26.out.below hb); clear XB26
      have XB26 := Lib.hid X.out; clear X
      have X := Lib.hid (XB43.out.below hb); clear XB43
      have XB43 := Lib.hid X.out; clear X
      clear hb
      have O88 := Lib.hid (Own.mono ho (show w.heap.size ≤ _ from HSZ.out)); clear ho HBS
      clear HSZ
      go_wp2_with (first | ((with_reducible show wpList _ _ _ ({ dst := _, op := Op.load 53 _, type := _, pos := _, after := _, guard := _ } :: _) _ _); refine wpList_load_row _ ⟨w.heap.size, 0, none⟩ rfl cs0 agg_lLog HL0.out (blk_cells B0.out) ?_) | ((with_reducible show wpList _ _ _ ({ dst := _, op := Op.load 53 _, type := _, pos := _, after := _, guard := _ } :: _) _ _); refine wpList_load_row_g _ (by first | rfl | kernel_rfl) ⟨w.heap.size, 0, none⟩ rfl cs0 agg_lLog HL0.out (blk_cells B0.out) ?_) | ((with_reducible show wpList _ _ _ ({ dst := _, op := Op.load 46 _, type := _, pos := _, after := _, guard := _ } :: _) _ _); refine wpList_load_row _ ⟨(World.heap v3).size, 0, none⟩ rfl cs'6 agg_Log Lcs6.out (blk_cells XB13.out) ?_) | ((with_reducible show wpList _ _ _ ({ dst := _, op := Op.load 46 _, type := _, pos := _, after := _, guard := _ } :: _) _ _); refine wpList_load_row_g _ (by first | rfl | kernel_rfl) ⟨(World.heap v3).size, 0, none⟩ rfl cs'6 agg_Log Lcs6.out (blk_cells XB13.out) ?_) | ((with_reducible show wpList _ _ _ ({ dst := _, op := Op.load 46 _, type := _, pos := _, after := _, guard := _ } :: _) _ _); refine wpList_load_row _ ⟨(World.heap v5).size, 0, none⟩ rfl cs'16 agg_Log Lcs16.out (blk_cells XB26.out) ?_) | ((with_reducible show wpList _ _ _ ({ dst := _, op := Op.load 46 _, type := _, pos := _, after := _, guard := _ } :: _) _ _); refine wpList_load_row_g _ (by first | rfl | kernel_rfl) ⟨(World.heap v5).size, 0, none⟩ rfl cs'16 agg_Log Lcs16.out (blk_cells XB26.out) ?_) | ((with_reducible show wpList _ _ _ ({ dst := _, op := Op.load 46 _, type := _, pos := _, after := _, guard := _ } :: _) _ _); refine wpList_load_row _ ⟨(World.heap v7).size, 0, none⟩ rfl cs'30 agg_Log Lcs30.out (blk_cells XB43.out) ?_) | ((with_reducible show wpList _ _ _ ({ dst := _, op := Op.load 46 _, type := _, pos := _, after := _, guard := _ } :: _) _ _); refine wpList_load_row_g _ (by first | rfl | kernel_rfl) ⟨(World.heap v7).size, 0, none⟩ rfl cs'30 agg_Log Lcs30.out (blk_cells XB43.out) ?_) | ((with_reducible show wpList _ _ _ ({ dst := _, op := Op.load 46 _, type := _, pos := _, after := _, guard := _ } :: _) _ _); refine wpList_load_row _ ⟨World.heap v17 |>.size, 0, none⟩ rfl cs'87 agg_Log Lcs87.out (blk_cells XB107.out) ?_) | ((with_reducible show wpList _ _ _ ({ dst := _, op := Op.store 46 _ _, type := _, pos := _, after := _, guard := _ } :: _) _ _); refine wpList_store_row _ (World.heap v17).size 46 0 cs'87 [] [.slice none 0 0, .int .i64 0, .int .i64 0] [] _ rfl rfl (Lcs87.out ▸ agg_Log) (blk_new v17 _ _) rfl rfl Lcs87.out.symm O88.out.one ?_; intro v18 hsb hsg; have hb : Below (World.heap v17).size v17 v18 := Below.grown (Below.alloc (Below.refl _ _) (Nat.le_refl _) _) hsg (by simp) (fun k hk => by injection hk with hk; omega); have hsb2 : Blk v18 (World.heap v17).size 46 cs'87.toArray := (by simpa using hsb); have XB107 := Lib.hid hsb2; clear hsb hsb2 hsg; have D108 := Lib.hid (show (World.heap v17).size ∉ F3 from fun he => by have h1 := (O2.out.in _ he).2; omega); have D109 := Lib.hid (show (World.heap v17).size ∉ F8 from fun he => by have h1 := (O7.out.in _ he).2; omega); have D110 := Lib.hid (show (World.heap v17).size ∉ F18 from fun he => by have h1 := (O17.out.in _ he).2; omega); have D111 := Lib.hid (show (World.heap v17).size ∉ F32 from fun he => by have h1 := (O31.out.in _ he).2; omega); have D112 := Lib.hid (show (World.heap v17).size ∉ F50 from fun he => by have h1 := (O49.out.in _ he).2; omega); have D113 := Lib.hid (show (World.heap v17).size ∉ F71 from fun he => by have h1 := (O70.out.in _ he).2; omega); have D114 := Lib.hid (show (World.heap v17).size ∉ F89 from fun he => by have h1 := (O88.out.in _ he).2; omega); have X := Lib.hid (B0.out.below hb); clear B0; have B0 := Lib.hid X.out; clear X; have X := Lib.hid (show Below w.heap.size w v18 from BW.out.trans (hb.mono BW.out.size)); clear BW; have BW := Lib.hid X.out; clear X; have X := Lib.hid (O2.out.below hb); clear O2; have O2 := Lib.hid X.out; clear X; have X := Lib.hid (O7.out.below hb); clear O7; have O7 := Lib.hid X.out; clear X; have X := Lib.hid (O17.out.below hb); clear O17; have O17 := Lib.hid X.out; clear X; have X := Lib.hid (O31.out.below hb); clear O31; have O31 := Lib.hid X.out; clear X; have X := Lib.hid (O49.out.below hb); clear O49; have O49 := Lib.hid X.out; clear X; have X := Lib.hid (O70.out.below hb); clear O70; have O70 := Lib.hid X.out; clear X; have X := Lib.hid (O88.out.below hb); clear O88; have O88 := Lib.hid X.out; clear X; have X := Lib.hid (XB13.out.below hb); clear XB13; have XB13 := Lib.hid X.out; clear X; have X := Lib.hid (XB26.out.below hb); clear XB26; have XB26 := Lib.hid X.out; clear X; have X := Lib.hid (XB43.out.below hb); clear XB43; have XB43 := Lib.hid X.out; clear X; clear hb) | fail)
      go_wp2_with (first | ((with_reducible show wpList _ _ _ ({ dst := _, op := Op.load 53 _, type := _, pos := _, after := _, guard := _ } :: _) _ _); refine wpList_load_row _ ⟨w.heap.size, 0, none⟩ rfl cs0 agg_lLog HL0.out (blk_cells B0.out) ?_) | ((with_reducible show wpList _ _ _ ({ dst := _, op := Op.load 53 _, type := _, pos := _, after := _, guard := _ } :: _) _ _); refine wpList_load_row_g _ (by first | rfl | kernel_rfl) ⟨w.heap.size, 0, none⟩ rfl cs0 agg_lLog HL0.out (blk_cells B0.out) ?_) | ((with_reducible show wpList _ _ _ ({ dst := _, op := Op.load 46 _, type := _, pos := _, after := _, guard := _ } :: _) _ _); refine wpList_load_row _ ⟨(World.heap v3).size, 0, none⟩ rfl cs'6 agg_Log Lcs6.out (blk_cells XB13.out) ?_) | ((with_reducible show wpList _ _ _ ({ dst := _, op := Op.load 46 _, type := _, pos := _, after := _, guard := _ } :: _) _ _); refine wpList_load_row_g _ (by first | rfl | kernel_rfl) ⟨(World.heap v3).size, 0, none⟩ rfl cs'6 agg_Log Lcs6.out (blk_cells XB13.out) ?_) | ((with_reducible show wpList _ _ _ ({ dst := _, op := Op.load 46 _, type := _, pos := _, after := _, guard := _ } :: _) _ _); refine wpList_load_row _ ⟨(World.heap v5).size, 0, none⟩ rfl cs'16 agg_Log Lcs16.out (blk_cells XB26.out) ?_) | ((with_reducible show wpList _ _ _ ({ dst := _, op := Op.load 46 _, type := _, pos := _, after := _, guard := _ } :: _) _ _); refine wpList_load_row_g _ (by first | rfl | kernel_rfl) ⟨(World.heap v5).size, 0, none⟩ rfl cs'16 agg_Log Lcs16.out (blk_cells XB26.out) ?_) | ((with_reducible show wpList _ _ _ ({ dst := _, op := Op.load 46 _, type := _, pos := _, after := _, guard := _ } :: _) _ _); refine wpList_load_row _ ⟨(World.heap v7).size, 0, none⟩ rfl cs'30 agg_Log Lcs30.out (blk_cells XB43.out) ?_) | ((with_reducible show wpList _ _ _ ({ dst := _, op := Op.load 46 _, type := _, pos := _, after := _, guard := _ } :: _) _ _); refine wpList_load_row_g _ (by first | rfl | kernel_rfl) ⟨(World.heap v7).size, 0, none⟩ rfl cs'30 agg_Log Lcs30.out (blk_cells XB43.out) ?_) | ((with_reducible show wpList _ _ _ ({ dst := _, op := Op.load 46 _, type := _, pos := _, after := _, guard := _ } :: _) _ _); refine wpList_load_row _ ⟨(World.heap v17).size, 0, none⟩ rfl cs'87 agg_Log Lcs87.out (blk_cells XB107.out) ?_) | ((with_reducible show wpList _ _ _ ({ dst := _, op := Op.load 46 _, type := _, pos := _, after := _, guard := _ } :: _) _ _); refine wpList_load_row_g _ (by first | rfl | kernel_rfl) ⟨(World.heap v17).size, 0, none⟩ rfl cs'87 agg_Log Lcs87.out (blk_cells XB107.out) ?_) | fail)
      have HSZ := Lib.hid BW.out.size
      refine (eqLog_any r0 cs'87 cs'6 _ (by first | omega | (have := HWT.out; omega)) O88.out.repAny O7.out.repAny).mono ?_; rintro e v19 ⟨rfl, hb⟩
      have X := Lib.hid (B0.out.below hb); clear B0
      have B0 := Lib.hid X.out; clear X
      have X := Lib.hid (show Below w.heap.size w v19 from BW.out.trans (hb.mono BW.out.size)); clear BW
      have BW := Lib.hid X.out; clear X
      have X := Lib.hid (O2.out.below hb); clear O2
      have O2 := Lib.hid X.out; clear X
      have X := Lib.hid (O7.out.below hb); clear O7
      have O7 := Lib.hid X.out; clear X
      have X := Lib.hid (O17.out.below hb); clear O17
      have O17 := Lib.hid X.out; clear X
      have X := Lib.hid (O31.out.below hb); clear O31
      have O31 := Lib.hid X.out; clear X
      have X := Lib.hid (O49.out.below hb); clear O49
      have O49 := Lib.hid X.out; clear X
      have X := Lib.hid (O70.out.below hb); clear O70
      have O70 := Lib.hid X.out; clear X
      have X := Lib.hid (O88.out.below hb); clear O88
      have O88 := Lib.hid X.out; clear X
      have X := Lib.hid (XB13.out.below hb); clear XB13
      have XB13 := Lib.hid X.out; clear X
      have X := Lib.hid (XB26.out.below hb); clear XB26
      have XB26 := Lib.hid X.out; clear X
      have X := Lib.hid (XB43.out.below hb); clear XB43
      have XB43 := Lib.hid X.out; clear X
      have X := Lib.hid (XB107.out.below hb); clear XB107
      have XB107 := Lib.hid X.out; clear X
      clear hb
      clear HSZ
      go_wp2_with (first | ((with_reducible show wpList _ _ _ ({ dst := _, op := Op.load 53 _, type := _, pos := _, after := _, guard := _ } :: _) _ _); refine wpList_load_row _ ⟨w.heap.size, 0, none⟩ rfl cs0 agg_lLog HL0.out (blk_cells B0.out) ?_) | ((with_reducible show wpList _ _ _ ({ dst := _, op := Op.load 53 _, type := _, pos := _, after := _, guard := _ } :: _) _ _); refine wpList_load_row_g _ (by first | rfl | kernel_rfl) ⟨w.heap.size, 0, none⟩ rfl cs0 agg_lLog HL0.out (blk_cells B0.out) ?_) | ((with_reducible show wpList _ _ _ ({ dst := _, op := Op.load 46 _, type := _, pos := _, after := _, guard := _ } :: _) _ _); refine wpList_load_row _ ⟨(World.heap v3).size, 0, none⟩ rfl cs'6 agg_Log Lcs6.out (blk_cells XB13.out) ?_) | ((with_reducible show wpList _ _ _ ({ dst := _, op := Op.load 46 _, type := _, pos := _, after := _, guard := _ } :: _) _ _); refine wpList_load_row_g _ (by first | rfl | kernel_rfl) ⟨(World.heap v3).size, 0, none⟩ rfl cs'6 agg_Log Lcs6.out (blk_cells XB13.out) ?_) | ((with_reducible show wpList _ _ _ ({ dst := _, op := Op.load 46 _, type := _, pos := _, after := _, guard := _ } :: _) _ _); refine wpList_load_row _ ⟨(World.heap v5).size, 0, none⟩ rfl cs'16 agg_Log Lcs16.out (blk_cells XB26.out) ?_) | ((with_reducible show wpList _ _ _ ({ dst := _, op := Op.load 46 _, type := _, pos := _, after := _, guard := _ } :: _) _ _); refine wpList_load_row_g _ (by first | rfl | kernel_rfl) ⟨(World.heap v5).size, 0, none⟩ rfl cs'16 agg_Log Lcs16.out (blk_cells XB26.out) ?_) | ((with_reducible show wpList _ _ _ ({ dst := _, op := Op.load 46 _, type := _, pos := _, after := _, guard := _ } :: _) _ _); refine wpList_load_row _ ⟨(World.heap v7).size, 0, none⟩ rfl cs'30 agg_Log Lcs30.out (blk_cells XB43.out) ?_) | ((with_reducible show wpList _ _ _ ({ dst := _, op := Op.load 46 _, type := _, pos := _, after := _, guard := _ } :: _) _ _); refine wpList_load_row_g _ (by first | rfl | kernel_rfl) ⟨(World.heap v7).size, 0, none⟩ rfl cs'30 agg_Log Lcs30.out (blk_cells XB43.out) ?_) | ((with_reducible show wpList _ _ _ ({ dst := _, op := Op.load 46 _, type := _, pos := _, after := _, guard := _ } :: _) _ _); refine wpList_load_row _ ⟨(World.heap v17).size, 0, none⟩ rfl cs'87 agg_Log Lcs87.out (blk_cells XB107.out) ?_) | ((with_reducible show wpList _ _ _ ({ dst := _, op := Op.load 46 _, type := _, pos := _, after := _, guard := _ } :: _) _ _); refine wpList_load_row_g _ (by first | rfl | kernel_rfl) ⟨(World.heap v17).size, 0, none⟩ rfl cs'87 agg_Log Lcs87.out (blk_cells XB107.out) ?_) | fail)
      have HSZ := Lib.hid BW.out.size
      refine (heldLog_any r0 (1) _ cs'30 _ (by first | rfl | omega) (by omega) (by first | omega | (have := HCN.out; omega)) (by first | omega | (have := HWT.out; omega)) O31.out.repAny).mono ?_; rintro e v20 ⟨q115, rfl, hq, hb⟩
      have hq1 : q66 = q115 := (hq.trans HY67.out.symm).symm
      subst hq1
      clear hq
      have X := Lib.hid (B0.out.below hb); clear B0
      have B0 := Lib.hid X.out; clear X
      have X := Lib.hid (show Below w.heap.size w v20 from BW.out.trans (hb.mono BW.out.size)); clear BW
      have BW := Lib.hid X.out; clear X
      have X := Lib.hid (O2.out.below hb); clear O2
      have O2 := Lib.hid X.out; clear X
      have X := Lib.hid (O7.out.below hb); clear O7
      have O7 := Lib.hid X.out; clear X
      have X := Lib.hid (O17.out.below hb); clear O17
      have O17 := Lib.hid X.out; clear X
      have X := Lib.hid (O31.out.below hb); clear O31
      have O31 := Lib.hid X.out; clear X
      have X := Lib.hid (O49.out.below hb); clear O49
      have O49 := Lib.hid X.out; clear X
      have X := Lib.hid (O70.out.below hb); clear O70
      have O70 := Lib.hid X.out; clear X
      have X := Lib.hid (O88.out.below hb); clear O88
      have O88 := Lib.hid X.out; clear X
      have X := Lib.hid (XB13.out.below hb); clear XB13
      have XB13 := Lib.hid X.out; clear X
      have X := Lib.hid (XB26.out.below hb); clear XB26
      have XB26 := Lib.hid X.out; clear X
      have X := Lib.hid (XB43.out.below hb); clear XB43
      have XB43 := Lib.hid X.out; clear X
      have X := Lib.hid (XB107.out.below hb); clear XB107
      have XB107 := Lib.hid X.out; clear X
      clear hb
      clear HSZ
      go_wp2
      go_ret
      exact ⟨ret_eq (by first | rfl | simp), BW.out⟩
    · skip
      go_enter Try.func14, Try.ntmps14
      go_wp2_with (first | ((with_reducible show wpList _ _ _ ({ dst := _, op := Op.load 53 _, type := _, pos := _, after := _, guard := _ } :: _) _ _); refine wpList_load_row _ ⟨w.heap.size, 0, none⟩ rfl cs0 agg_lLog HL0.out (blk_cells (blk_new _ _ _)) ?_) | ((with_reducible show wpList _ _ _ ({ dst := _, op := Op.load 53 _, type := _, pos := _, after := _, guard := _ } :: _) _ _); refine wpList_load_row_g _ (by first | rfl | kernel_rfl) ⟨w.heap.size, 0, none⟩ rfl cs0 agg_lLog HL0.out (blk_cells (blk_new _ _ _)) ?_) | fail)
      refine (szLog_no x0 _ cs0 _ (by omega) (by omega) OK0.out (A0.out.below (by repeat' (first | with_reducible exact Below.refl _ _ | with_reducible refine Below.alloc ?_ ?_ _ | (simp; done) | (simp; omega) | omega))) (by omega)).mono ?_; rintro e v1 ⟨rfl, hb⟩
      have B0 := Lib.hid (Blk.below (blk_new _ _ _) hb)
      have BW := Lib.hid (show Below w.heap.size w v1 from Below.trans (by repeat' (first | with_reducible exact Below.refl _ _ | with_reducible refine Below.alloc ?_ ?_ _ | (simp; done) | (simp; omega) | omega)) (hb.mono (by first | (simp; done) | (simp; omega) | omega)))
      clear hb
      go_wp2
      go_ret
      exact ⟨ret_eq (by first | rfl | simp), BW.out⟩
  · skip
    go_enter Try.func14, Try.ntmps14
    go_wp2
    go_ret
    exact ⟨ret_eq (by first | rfl | simp), (by repeat' (first | with_reducible exact Below.refl _ _ | with_reducible refine Below.alloc ?_ ?_ _ | (simp; done) | (simp; omega) | omega))⟩
set_option maxRecDepth 100000 in
theorem FnExactLogAdd_lifted (os : Os) (started : os.Started) (H : Type) (enc : TypeId × Value → H) :
    ReturnsInHanded {} Try.checked os 14 .any (Rows.fnExactLogAddSpec.pre6 enc Try.prog Try.f14 Rows.fnExactLogAddRow.domain false) (Rows.fnExactLogAddSpec.post enc Try.prog Try.f14 false true false false) := by
  refine returnsInHanded_of_change (C := Try.checked) own started (by kernel_rfl) Try.func14
    (ChangeSpec.witness6 (enc := enc) (C := Try.checked) false ⟨#[], #[.agg #[.slice none 0 0, .int .i64 0, .int .i64 0], .string ⟨#[]⟩], []⟩ 8 (by kernel_rfl) (by kernel_rfl) (by kernel_rfl) (by kernel_rfl)) ?_
  intro W base args ds gs before hval0 hW _ _
  have hval : ∀ (j : Nat) t v, Try.f14.params[j]? = some t → args[j]? = some v → Value.okWide Try.prog W .any base t v := hval0
  have hW' := hW
  obtain ⟨p, q, hA0, hV, rfl, hfz, hnd⟩ := hW
  have hA : DataW.TrodAll enc Try.prog W 0 (fun _ => true) true Try.f14.params.toList args.toList ds p := hA0
  rw [Try.params14] at hA hval
  obtain ⟨v0, vs0, d0, ds0, p0, q0, hargs, rfl, rfl, h0, r0⟩ := trodAll_cons hA
  obtain ⟨v1, vs1, d1, ds1, p1, q1, rfl, rfl, rfl, h1, r1⟩ := trodAll_cons r0
  obtain ⟨rfl, rfl, rfl⟩ := trodAll_nil r1
  obtain rfl : args = #[v0, v1] := Array.ext' hargs
  obtain ⟨x0, cs0, rfl, ok0, rp0⟩ := openV_Log (hval 0 53 v0 rfl rfl) h0
  obtain ⟨a1, rfl, rfl, rfl, w1⟩ := open_string Try.underlying9 (hval 1 9 v1 rfl rfl) h1
  obtain ⟨l1, rfl⟩ : ∃ l, a1 = bs l := ⟨_, bs_eta a1⟩
  refine (lLogAdd_all x0 cs0 l1 W ok0 rp0 (len_le w1)).mono fun e W' ⟨he, hb⟩ => ?_
  subst he
  refine ⟨_, rfl, law_post (tb := 4) laidOut (by kernel_rfl) rfl Try.underlying4 rfl ?_ hW' hb⟩
  intro ds hl
  rw [Try.params14] at hl
  match ds, hl with
  | [_, _], _ => rfl
theorem FnExactLogAdd_holds : Rows.FnExactLogAddSaid :=
  OpenClaim.holds_of_wide 14 Try.f14 rfl rfl rfl rfl rfl rfl rfl ⟨rfl, rfl, rfl, rfl, rfl⟩ rfl rfl rfl rfl rfl (by kernel_rfl) Try.func14 (by kernel_rfl)
    (of_decide_eq_true (by kernel_rfl)) (by unfold Func.isWrapper; first | (rw [if_pos (by decide +kernel)]; kernel_rfl) | (rw [if_neg (by decide +kernel)]; exact ⟨rfl, rfl⟩))
    (fun os started H enc _ => FnExactLogAdd_lifted os started H enc)
end Go.Proofs.Ytifdkjddiohahaa
