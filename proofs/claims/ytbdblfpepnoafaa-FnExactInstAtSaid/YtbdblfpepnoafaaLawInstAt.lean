/-
  The law on InstAt holds for all arguments. No condition.
-/
import Derived.Test.YtbdblfpepnoafaaEq
import Derived.Test.YtbdblfpepnoafaaOpen
import Derived.Test.YtbdblfpepnoafaaRegF
import Derived.Test.YtbdblfpepnoafaaInstAtI
import Derived.Test.YtbdblfpepnoafaaMkB
namespace Go.Proofs.Ytbdblfpepnoafaa
open Go.RowKit Go.ChangeShapes Go.WideShapes Go.ChangeAt
open Go.ChangeMaps (open_string)

attribute [local irreducible] markL marks mks cts IdD.mkT IdD.cntT InstD.mkT InstD.cntT
set_option maxRecDepth 100000 in
set_option maxHeartbeats 4000000 in
theorem lInstAt_all (x0 : List InstD) (A0 : Option Addr) (n0 c0 : Nat) (x1 : IdD) (cs1 : List Value) (w : World) (hn0 : n0 = x0.length) (hm0 : n0 ≤ 9223372036854775807) (hok0 : (cat InstD.c x0).ok) (h0 : Rep anyB w (.sl 49 16 n0 (cat InstD.c x0) .nil) [.slice A0 n0 c0]) (hok1 : x1.c.ok) (h1 : Rep anyB w x1.c cs1) :
    Calls Try.prog 7 #[.slice A0 n0 c0, .agg cs1.toArray] w fun e w' => e = .returned (.bool true) ∧ Below w.heap.size w w' := by
  have HN0 := Lib.hid hn0; clear hn0
  have OK0 := Lib.hid hok0; clear hok0
  have RA0 := Lib.hid h0; clear h0
  have HL1 := Lib.hid (show cs1.length = 2 from h1.length.trans (IdD.width x1))
  have OK1 := Lib.hid hok1; clear hok1
  have A1 := Lib.hid h1; clear h1
  by_cases cc0 : (((n0 + (cat InstD.c x0).wt) : Nat) : Int) ≤ 1048576
  · skip
    have hs := fun B0 C0 ds1 W g0 g1 => sInstAt_any x0 x1 B0 n0 C0 ds1 W HN0.out (by omega) (Nat.zero_le _) g0 g1
    have hi := fun B0 C0 ds1 W g0 g1 => iInstAt_any x0 x1 B0 n0 C0 ds1 W HN0.out (by omega) (Nat.zero_le _) g0 g1
    have hbd := bInstAt x0 x1 (by have := HN0.out; omega) (Nat.zero_le _)
    generalize fInstAt x0 x1 = r0 at hs hi hbd
    have Hs := Lib.hid hs; clear hs
    have Hi := Lib.hid hi; clear hi
    obtain ⟨hwt0, hcn0⟩ := hbd
    have HWT := Lib.hid hwt0
    have HCN := Lib.hid hcn0
    clear hwt0 hcn0
    have HCX0 := Lib.hid (InstD.cts_le x0)
    go_enter Try.func7, Try.ntmps7
    go_wp2_with (first | ((with_reducible show wpList _ _ _ ({ dst := _, op := Op.load 23 _, type := _, pos := _, after := _, guard := _ } :: _) _ _); refine wpList_load_row _ ⟨w.heap.size, 0, none⟩ rfl cs1 agg_lId HL1.out (blk_cells (blk_new _ _ _)) ?_) | ((with_reducible show wpList _ _ _ ({ dst := _, op := Op.load 23 _, type := _, pos := _, after := _, guard := _ } :: _) _ _); refine wpList_load_row_g _ (by first | rfl | kernel_rfl) ⟨w.heap.size, 0, none⟩ rfl cs1 agg_lId HL1.out (blk_cells (blk_new _ _ _)) ?_) | fail)
    refine (szInstS_yes x0 _ A0 n0 c0 _ HN0.out (by omega) (by omega) hm0 OK0.out (RA0.out.below (by repeat' (first | with_reducible exact Below.refl _ _ | with_reducible refine Below.alloc ?_ ?_ _ | (simp; done) | (simp; omega) | omega))) (by omega)).mono ?_; rintro e v1 ⟨q0, rfl, ⟨g0a, g0b⟩, hq, hb⟩
    have HQ0 := Lib.hid hq; clear hq
    have B0 := Lib.hid (Blk.below (blk_new _ _ _) hb)
    have BW := Lib.hid (show Below w.heap.size w v1 from Below.trans (by repeat' (first | with_reducible exact Below.refl _ _ | with_reducible refine Below.alloc ?_ ?_ _ | (simp; done) | (simp; omega) | omega)) (hb.mono (by first | (simp; done) | (simp; omega) | omega)))
    clear hb
    go_wp2
    obtain ⟨J, hJ⟩ : ∃ J : Act → World → Prop, J = fun a' w' => ∃ (A'1 : Option Addr) (c'2 : Nat) (cs'7 cs'14 : List Value) (F4 F9 F16 : List Nat) (pb : Nat), a' = { tmps := List.toArray (.slice A0 n0 c0 :: .agg cs1.toArray :: undef :: .pointer (some ⟨w.heap.size, 0, none⟩) :: .bool false :: .int .i64 q0 :: .pointer (some ⟨pb, 0, none⟩) :: undef :: undef :: undef :: undef :: undef :: undef :: .slice A0 n0 c0 :: .int .i64 1048576 :: .int .i64 q0 :: .int .i64 q0 :: .bool (decide (q0 < 0)) :: .slice A0 n0 c0 :: .slice A'1 n0 c'2 :: .agg cs1.toArray :: .agg cs'7.toArray :: .agg cs'14.toArray :: undef :: undef :: undef :: undef :: undef :: undef :: undef :: undef :: undef :: undef :: undef :: undef :: undef :: undef :: undef :: undef :: undef :: undef :: undef :: undef :: undef :: undef :: undef :: undef :: undef :: undef :: undef :: undef :: undef :: undef :: undef :: undef :: undef :: undef :: undef :: undef :: undef :: undef :: undef :: undef :: undef :: undef :: undef :: undef :: undef :: undef :: undef :: undef :: undef :: undef :: undef :: undef :: undef :: undef :: []), defers := [] } ∧ (cs'7.length = 2) ∧ (cs'14.length = 16) ∧ (F4.Nodup) ∧ (F9.Nodup) ∧ (F16.Nodup) ∧ (w.heap.size ∉ F4) ∧ (w.heap.size ∉ F9) ∧ (w.heap.size ∉ F16) ∧ (∀ b ∈ F4, b ∉ F9) ∧ (∀ b ∈ F9, b ∉ F4) ∧ (∀ b ∈ F4, b ∉ F16) ∧ (∀ b ∈ F16, b ∉ F4) ∧ (∀ b ∈ F9, b ∉ F16) ∧ (∀ b ∈ F16, b ∉ F9) ∧ (pb ∉ F4) ∧ (pb ∉ F9) ∧ (pb ∉ F16) ∧ (w.heap.size < pb) ∧ (Blk w' w.heap.size 23 cs1.toArray) ∧ (Below w.heap.size w w') ∧ (Own w' w.heap.size (.sl 49 16 n0 (cat InstD.c x0) .nil) [.slice A'1 n0 c'2] F4) ∧ (Own w' w.heap.size x1.c cs'7 F9) ∧ (Own w' w.heap.size r0.c cs'14 F16) ∧ (Blk w' pb 49 cs'14.toArray) := ⟨_, rfl⟩
    have HJ := Lib.hid hJ; clear hJ
    refine Code.wp_mono (Q := fun e a' w' => e = .normal ∧ J a' w') ?_ ?_
    rotate_left
    · refine wp_region_t 6 (.one 0 (.one 2 (.two 1 5 (.two 3 5 (.two 4 5 (.one 5 .leaf) (.one 4 .leaf)) (.one 3 (.one 4 .leaf))) (.one 1 (.one 3 (.one 4 .leaf)))))) (by kernel_rfl) (by kernel_rfl) ?_
      refine wpT_quiet rfl (by kernel_rfl) rfl ?_; go_wp2; refine ⟨rfl, ?_⟩
      refine wpT_quiet rfl (by kernel_rfl) rfl ?_; go_wp2_with (first | (refine wpList_load_row _ ⟨w.heap.size, 0, none⟩ rfl cs1 agg_lId HL1.out (blk_cells B0.out.drew) ?_) | fail); refine ⟨rfl, ?_⟩
      have X := Lib.hid B0.out.drew; clear B0; have B0 := Lib.hid X.out; clear X
      have X := Lib.hid BW.out.drew; clear BW; have BW := Lib.hid X.out; clear X
      generalize v1.drew = u at B0 BW ⊢
      refine wpT_two rfl rfl ?_ ?_
      · skip
        go_wp2_with fail
        have HSZ := Lib.hid BW.out.size
        refine (toInstS_any x0 A0 n0 c0 _ HN0.out (by omega) (RA0.out.below BW.out)).mono ?_; rintro e u0 ⟨A'1, c'2, rfl, hM, hb⟩
        obtain ⟨F4, hnd, ho⟩ := hM
        have N5 := Lib.hid hnd; clear hnd
        have D6 := Lib.hid (show w.heap.size ∉ F4 from fun he => by have h1 := B0.out.lt; have h2 := (ho.in _ he).1; omega)
        have HB := Lib.hid hb; clear hb
        have X := Lib.hid (B0.out.below HB.out); clear B0; have B0 := Lib.hid X.out; clear X
        have X := Lib.hid (show Below w.heap.size w u0 from BW.out.trans (HB.out.mono BW.out.size)); clear BW; have BW := Lib.hid X.out; clear X
        have O3 := Lib.hid (Own.mono ho (show w.heap.size ≤ _ from HSZ.out)); clear ho HSZ
        go_wp2
        refine ⟨Ext.of_below HB.out, ?_⟩
        clear HB
        refine wpT_two rfl rfl ?_ ?_
        · skip
          go_wp2_with fail
          have HSZ := Lib.hid BW.out.size
          refine (toId_any x1 cs1 _ (by exact Nat.zero_le _) (A1.out.below BW.out)).mono ?_; rintro e u1 ⟨cs'7, rfl, hM, hb⟩
          have Lcs7 := Lib.hid (show cs'7.length = 2 from hM.rep.length.trans (IdD.width _))
          obtain ⟨F9, hnd, ho⟩ := hM
          have N10 := Lib.hid hnd; clear hnd
          have D11 := Lib.hid (show ∀ b ∈ F4, b ∉ F9 from fun b hb he => by have h1 := (O3.out.in b hb).2; have h2 := (ho.in b he).1; omega)
          have D12 := Lib.hid (show ∀ b ∈ F9, b ∉ F4 from fun b he hb => by have h1 := (O3.out.in b hb).2; have h2 := (ho.in b he).1; omega)
          have D13 := Lib.hid (show w.heap.size ∉ F9 from fun he => by have h1 := B0.out.lt; have h2 := (ho.in _ he).1; omega)
          have HB := Lib.hid hb; clear hb
          have X := Lib.hid (B0.out.below HB.out); clear B0; have B0 := Lib.hid X.out; clear X
          have X := Lib.hid (show Below w.heap.size w u1 from BW.out.trans (HB.out.mono BW.out.size)); clear BW; have BW := Lib.hid X.out; clear X
          have X := Lib.hid (O3.out.below HB.out); clear O3; have O3 := Lib.hid X.out; clear X
          have O8 := Lib.hid (Own.mono ho (show w.heap.size ≤ _ from HSZ.out)); clear ho HSZ
          go_wp2
          refine ⟨Ext.of_below HB.out, ?_⟩
          clear HB
          refine wpT_two rfl rfl ?_ ?_
          · skip
            go_wp2_with fail
            have HSZ := Lib.hid BW.out.size
            refine (Hs.out A'1 c'2 cs'7 _ O3.out.repAny O8.out.repAny).mono ?_; rintro e u2 ⟨cs'14, rfl, hM, hb⟩
            have Lcs14 := Lib.hid (show cs'14.length = 16 from hM.rep.length.trans (InstD.width _))
            obtain ⟨F16, hnd, ho⟩ := hM
            have N17 := Lib.hid hnd; clear hnd
            have D18 := Lib.hid (show ∀ b ∈ F4, b ∉ F16 from fun b hb he => by have h1 := (O3.out.in b hb).2; have h2 := (ho.in b he).1; omega)
            have D19 := Lib.hid (show ∀ b ∈ F16, b ∉ F4 from fun b he hb => by have h1 := (O3.out.in b hb).2; have h2 := (ho.in b he).1; omega)
            have D20 := Lib.hid (show ∀ b ∈ F9, b ∉ F16 from fun b hb he => by have h1 := (O8.out.in b hb).2; have h2 := (ho.in b he).1; omega)
            have D21 := Lib.hid (show ∀ b ∈ F16, b ∉ F9 from fun b he hb => by have h1 := (O8.out.in b hb).2; have h2 := (ho.in b he).1; omega)
            have D22 := Lib.hid (show w.heap.size ∉ F16 from fun he => by have h1 := B0.out.lt; have h2 := (ho.in _ he).1; omega)
            have HB := Lib.hid hb; clear hb
            have X := Lib.hid (B0.out.below HB.out); clear B0; have B0 := Lib.hid X.out; clear X
            have X := Lib.hid (show Below w.heap.size w u2 from BW.out.trans (HB.out.mono BW.out.size)); clear BW; have BW := Lib.hid X.out; clear X
            have X := Lib.hid (O3.out.below HB.out); clear O3; have O3 := Lib.hid X.out; clear X
            have X := Lib.hid (O8.out.below HB.out); clear O8; have O8 := Lib.hid X.out; clear X
            have O15 := Lib.hid (Own.mono ho (show w.heap.size ≤ _ from HSZ.out)); clear ho HSZ
            go_wp2
            refine ⟨Ext.of_below HB.out, ?_⟩
            clear HB
            refine wpT_actor rfl (by kernel_rfl) ?_
            go_wp2; refine ⟨Ext.alloc (Ext.refl _) _, ?_⟩
            have hb : Below (World.heap u2).size u2 (World.alloc u2 (.cells #[.int .i64 0, .int .i64 0, .int .i64 0, .int .i64 0, .int .i64 0, .int .i64 0, .int .i64 0, .int .i64 0, .string ⟨#[]⟩, .string ⟨#[]⟩, .string ⟨#[]⟩, .int .i64 0, .slice none 0 0, .int .i64 0, .slice none 0 0, .bool false] 49)) := Below.alloc (Below.refl _ _) (Nat.le_refl _) _
            have hx : Blk (World.alloc u2 (.cells #[.int .i64 0, .int .i64 0, .int .i64 0, .int .i64 0, .int .i64 0, .int .i64 0, .int .i64 0, .int .i64 0, .string ⟨#[]⟩, .string ⟨#[]⟩, .string ⟨#[]⟩, .int .i64 0, .slice none 0 0, .int .i64 0, .slice none 0 0, .bool false] 49)) (World.heap u2).size 49 #[.int .i64 0, .int .i64 0, .int .i64 0, .int .i64 0, .int .i64 0, .int .i64 0, .int .i64 0, .int .i64 0, .string ⟨#[]⟩, .string ⟨#[]⟩, .string ⟨#[]⟩, .int .i64 0, .slice none 0 0, .int .i64 0, .slice none 0 0, .bool false] := blk_new u2 _ _
            generalize World.alloc u2 (.cells #[.int .i64 0, .int .i64 0, .int .i64 0, .int .i64 0, .int .i64 0, .int .i64 0, .int .i64 0, .int .i64 0, .string ⟨#[]⟩, .string ⟨#[]⟩, .string ⟨#[]⟩, .int .i64 0, .slice none 0 0, .int .i64 0, .slice none 0 0, .bool false] 49) = u3 at hb hx ⊢
            obtain ⟨pb, hpb⟩ : ∃ pb, pb = (World.heap u2).size := ⟨_, rfl⟩
            rw [← hpb] at hx ⊢
            have XA := Lib.hid hx; clear hx
            have PW := Lib.hid (show w.heap.size < pb by have h1 := B0.out.lt; omega)
            have D24 := Lib.hid (show pb ∉ F4 from fun he => by have h1 := (O3.out.in _ he).2; omega)
            have D25 := Lib.hid (show pb ∉ F9 from fun he => by have h1 := (O8.out.in _ he).2; omega)
            have D26 := Lib.hid (show pb ∉ F16 from fun he => by have h1 := (O15.out.in _ he).2; omega)
            clear hpb
            have X := Lib.hid (B0.out.below hb); clear B0; have B0 := Lib.hid X.out; clear X
            have X := Lib.hid (show Below w.heap.size w u3 from BW.out.trans (hb.mono BW.out.size)); clear BW; have BW := Lib.hid X.out; clear X
            have X := Lib.hid (O3.out.below hb); clear O3; have O3 := Lib.hid X.out; clear X
            have X := Lib.hid (O8.out.below hb); clear O8; have O8 := Lib.hid X.out; clear X
            have X := Lib.hid (O15.out.below hb); clear O15; have O15 := Lib.hid X.out; clear X
            clear hb
            refine wpT_nil ?_
            try simp only [List.drop_succ_cons, List.drop_zero]
            refine wpList_store_row _ pb 49 0 cs'14 [] [.int .i64 0, .int .i64 0, .int .i64 0, .int .i64 0, .int .i64 0, .int .i64 0, .int .i64 0, .int .i64 0, .string ⟨#[]⟩, .string ⟨#[]⟩, .string ⟨#[]⟩, .int .i64 0, .slice none 0 0, .int .i64 0, .slice none 0 0, .bool false] [] _ rfl rfl (Lcs14.out ▸ agg_Inst) XA.out rfl rfl Lcs14.out.symm O15.out.one ?_; intro uu hsb hsg
            have hsb2 : Blk uu pb 49 cs'14.toArray := (by simpa using hsb)
            refine ⟨rfl, ?_⟩; rw [HJ.out]; exact ⟨A'1, c'2, cs'7, cs'14, F4, F9, F16, pb, rfl, Lcs7.out, Lcs14.out, N5.out, N10.out, N17.out, D6.out, D13.out, D22.out, D11.out, D12.out, D18.out, D19.out, D20.out, D21.out, D24.out, D25.out, D26.out, PW.out, B0.out.keep (hsg.block _ B0.out.lt (fun hk => by injection hk with hk; have := PW.out; omega)), Below.grown BW.out hsg BW.out.size (fun k hk => by injection hk with hk; have := PW.out; omega), O3.out.keep fun b hb => hsg.block b (O3.out.in b hb).2 (fun hk => by injection hk with hk; exact D24.out (hk ▸ hb)), O8.out.keep fun b hb => hsg.block b (O8.out.in b hb).2 (fun hk => by injection hk with hk; exact D25.out (hk ▸ hb)), O15.out.keep fun b hb => hsg.block b (O15.out.in b hb).2 (fun hk => by injection hk with hk; exact D26.out (hk ▸ hb)), hsb2⟩
          · skip
            go_wp2; refine ⟨Ext.alloc (Ext.refl _) _, ?_⟩
            have hb : Below (World.heap u1).size u1 (World.alloc u1 (.cells #[.int .i64 0, .int .i64 0, .int .i64 0, .int .i64 0, .int .i64 0, .int .i64 0, .int .i64 0, .int .i64 0, .string ⟨#[]⟩, .string ⟨#[]⟩, .string ⟨#[]⟩, .int .i64 0, .slice none 0 0, .int .i64 0, .slice none 0 0, .bool false] 49)) := Below.alloc (Below.refl _ _) (Nat.le_refl _) _
            have hx : Blk (World.alloc u1 (.cells #[.int .i64 0, .int .i64 0, .int .i64 0, .int .i64 0, .int .i64 0, .int .i64 0, .int .i64 0, .int .i64 0, .string ⟨#[]⟩, .string ⟨#[]⟩, .string ⟨#[]⟩, .int .i64 0, .slice none 0 0, .int .i64 0, .slice none 0 0, .bool false] 49)) (World.heap u1).size 49 #[.int .i64 0, .int .i64 0, .int .i64 0, .int .i64 0, .int .i64 0, .int .i64 0, .int .i64 0, .int .i64 0, .string ⟨#[]⟩, .string ⟨#[]⟩, .string ⟨#[]⟩, .int .i64 0, .slice none 0 0, .int .i64 0, .slice none 0 0, .bool false] := blk_new u1 _ _
            generalize World.alloc u1 (.cells #[.int .i64 0, .int .i64 0, .int .i64 0, .int .i64 0, .int .i64 0, .int .i64 0, .int .i64 0, .int .i64 0, .string ⟨#[]⟩, .string ⟨#[]⟩, .string ⟨#[]⟩, .int .i64 0, .slice none 0 0, .int .i64 0, .slice none 0 0, .bool false] 49) = u4 at hb hx ⊢
            obtain ⟨pb, hpb⟩ : ∃ pb, pb = (World.heap u1).size := ⟨_, rfl⟩
            rw [← hpb] at hx ⊢
            have XA := Lib.hid hx; clear hx
            have PW := Lib.hid (show w.heap.size < pb by have h1 := B0.out.lt; omega)
            have D24 := Lib.hid (show pb ∉ F4 from fun he => by have h1 := (O3.out.in _ he).2; omega)
            have D25 := Lib.hid (show pb ∉ F9 from fun he => by have h1 := (O8.out.in _ he).2; omega)
            clear hpb
            have X := Lib.hid (B0.out.below hb); clear B0; have B0 := Lib.hid X.out; clear X
            have X := Lib.hid (show Below w.heap.size w u4 from BW.out.trans (hb.mono BW.out.size)); clear BW; have BW := Lib.hid X.out; clear X
            have X := Lib.hid (O3.out.below hb); clear O3; have O3 := Lib.hid X.out; clear X
            have X := Lib.hid (O8.out.below hb); clear O8; have O8 := Lib.hid X.out; clear X
            clear hb
            refine wpT_actor rfl (by kernel_rfl) ?_
            go_wp2_with fail
            have HSZ := Lib.hid BW.out.size
            refine (Hs.out A'1 c'2 cs'7 _ O3.out.repAny O8.out.repAny).mono ?_; rintro e u5 ⟨cs'14, rfl, hM, hb⟩
            have Lcs14 := Lib.hid (show cs'14.length = 16 from hM.rep.length.trans (InstD.width _))
            obtain ⟨F16, hnd, ho⟩ := hM
            have N17 := Lib.hid hnd; clear hnd
            have D18 := Lib.hid (show ∀ b ∈ F4, b ∉ F16 from fun b hb he => by have h1 := (O3.out.in b hb).2; have h2 := (ho.in b he).1; omega)
            have D19 := Lib.hid (show ∀ b ∈ F16, b ∉ F4 from fun b he hb => by have h1 := (O3.out.in b hb).2; have h2 := (ho.in b he).1; omega)
            have D20 := Lib.hid (show ∀ b ∈ F9, b ∉ F16 from fun b hb he => by have h1 := (O8.out.in b hb).2; have h2 := (ho.in b he).1; omega)
            have D21 := Lib.hid (show ∀ b ∈ F16, b ∉ F9 from fun b he hb => by have h1 := (O8.out.in b hb).2; have h2 := (ho.in b he).1; omega)
            have D22 := Lib.hid (show w.heap.size ∉ F16 from fun he => by have h1 := B0.out.lt; have h2 := (ho.in _ he).1; omega)
            have D26 := Lib.hid (show pb ∉ F16 from fun he => by have h1 := XA.out.lt; have h2 := (ho.in _ he).1; omega)
            have HB := Lib.hid hb; clear hb
            have X := Lib.hid (B0.out.below HB.out); clear B0; have B0 := Lib.hid X.out; clear X
            have X := Lib.hid (show Below w.heap.size w u5 from BW.out.trans (HB.out.mono BW.out.size)); clear BW; have BW := Lib.hid X.out; clear X
            have X := Lib.hid (O3.out.below HB.out); clear O3; have O3 := Lib.hid X.out; clear X
            have X := Lib.hid (O8.out.below HB.out); clear O8; have O8 := Lib.hid X.out; clear X
            have X := Lib.hid (XA.out.below HB.out); clear XA; have XA := Lib.hid X.out; clear X
            have O15 := Lib.hid (Own.mono ho (show w.heap.size ≤ _ from HSZ.out)); clear ho HSZ
            go_wp2
            refine ⟨Ext.of_below HB.out, ?_⟩
            clear HB
            refine wpT_nil ?_
            try simp only [List.drop_succ_cons, List.drop_zero]
            refine wpList_store_row _ pb 49 0 cs'14 [] [.int .i64 0, .int .i64 0, .int .i64 0, .int .i64 0, .int .i64 0, .int .i64 0, .int .i64 0, .int .i64 0, .string ⟨#[]⟩, .string ⟨#[]⟩, .string ⟨#[]⟩, .int .i64 0, .slice none 0 0, .int .i64 0, .slice none 0 0, .bool false] [] _ rfl rfl (Lcs14.out ▸ agg_Inst) XA.out rfl rfl Lcs14.out.symm O15.out.one ?_; intro uu hsb hsg
            have hsb2 : Blk uu pb 49 cs'14.toArray := (by simpa using hsb)
            refine ⟨rfl, ?_⟩; rw [HJ.out]; exact ⟨A'1, c'2, cs'7, cs'14, F4, F9, F16, pb, rfl, Lcs7.out, Lcs14.out, N5.out, N10.out, N17.out, D6.out, D13.out, D22.out, D11.out, D12.out, D18.out, D19.out, D20.out, D21.out, D24.out, D25.out, D26.out, PW.out, B0.out.keep (hsg.block _ B0.out.lt (fun hk => by injection hk with hk; have := PW.out; omega)), Below.grown BW.out hsg BW.out.size (fun k hk => by injection hk with hk; have := PW.out; omega), O3.out.keep fun b hb => hsg.block b (O3.out.in b hb).2 (fun hk => by injection hk with hk; exact D24.out (hk ▸ hb)), O8.out.keep fun b hb => hsg.block b (O8.out.in b hb).2 (fun hk => by injection hk with hk; exact D25.out (hk ▸ hb)), O15.out.keep fun b hb => hsg.block b (O15.out.in b hb).2 (fun hk => by injection hk with hk; exact D26.out (hk ▸ hb)), hsb2⟩
        · skip
          go_wp2; refine ⟨Ext.alloc (Ext.refl _) _, ?_⟩
          have hb : Below (World.heap u0).size u0 (World.alloc u0 (.cells #[.int .i64 0, .int .i64 0, .int .i64 0, .int .i64 0, .int .i64 0, .int .i64 0, .int .i64 0, .int .i64 0, .string ⟨#[]⟩, .string ⟨#[]⟩, .string ⟨#[]⟩, .int .i64 0, .slice none 0 0, .int .i64 0, .slice none 0 0, .bool false] 49)) := Below.alloc (Below.refl _ _) (Nat.le_refl _) _
          have hx : Blk (World.alloc u0 (.cells #[.int .i64 0, .int .i64 0, .int .i64 0, .int .i64 0, .int .i64 0, .int .i64 0, .int .i64 0, .int .i64 0, .string ⟨#[]⟩, .string ⟨#[]⟩, .string ⟨#[]⟩, .int .i64 0, .slice none 0 0, .int .i64 0, .slice none 0 0, .bool false] 49)) (World.heap u0).size 49 #[.int .i64 0, .int .i64 0, .int .i64 0, .int .i64 0, .int .i64 0, .int .i64 0, .int .i64 0, .int .i64 0, .string ⟨#[]⟩, .string ⟨#[]⟩, .string ⟨#[]⟩, .int .i64 0, .slice none 0 0, .int .i64 0, .slice none 0 0, .bool false] := blk_new u0 _ _
          generalize World.alloc u0 (.cells #[.int .i64 0, .int .i64 0, .int .i64 0, .int .i64 0, .int .i64 0, .int .i64 0, .int .i64 0, .int .i64 0, .string ⟨#[]⟩, .string ⟨#[]⟩, .string ⟨#[]⟩, .int .i64 0, .slice none 0 0, .int .i64 0, .slice none 0 0, .bool false] 49) = u6 at hb hx ⊢
          obtain ⟨pb, hpb⟩ : ∃ pb, pb = (World.heap u0).size := ⟨_, rfl⟩
          rw [← hpb] at hx ⊢
          have XA := Lib.hid hx; clear hx
          have PW := Lib.hid (show w.heap.size < pb by have h1 := B0.out.lt; omega)
          have D24 := Lib.hid (show pb ∉ F4 from fun he => by have h1 := (O3.out.in _ he).2; omega)
          clear hpb
          have X := Lib.hid (B0.out.below hb); clear B0; have B0 := Lib.hid X.out; clear X
          have X := Lib.hid (show Below w.heap.size w u6 from BW.out.trans (hb.mono BW.out.size)); clear BW; have BW := Lib.hid X.out; clear X
          have X := Lib.hid (O3.out.below hb); clear O3; have O3 := Lib.hid X.out; clear X
          clear hb
          refine wpT_actor rfl (by kernel_rfl) ?_
          go_wp2_with fail
          have HSZ := Lib.hid BW.out.size
          refine (toId_any x1 cs1 _ (by exact Nat.zero_le _) (A1.out.below BW.out)).mono ?_; rintro e u7 ⟨cs'7, rfl, hM, hb⟩
          have Lcs7 := Lib.hid (show cs'7.length = 2 from hM.rep.length.trans (IdD.width _))
          obtain ⟨F9, hnd, ho⟩ := hM
          have N10 := Lib.hid hnd; clear hnd
          have D11 := Lib.hid (show ∀ b ∈ F4, b ∉ F9 from fun b hb he => by have h1 := (O3.out.in b hb).2; have h2 := (ho.in b he).1; omega)
          have D12 := Lib.hid (show ∀ b ∈ F9, b ∉ F4 from fun b he hb => by have h1 := (O3.out.in b hb).2; have h2 := (ho.in b he).1; omega)
          have D13 := Lib.hid (show w.heap.size ∉ F9 from fun he => by have h1 := B0.out.lt; have h2 := (ho.in _ he).1; omega)
          have D25 := Lib.hid (show pb ∉ F9 from fun he => by have h1 := XA.out.lt; have h2 := (ho.in _ he).1; omega)
          have HB := Lib.hid hb; clear hb
          have X := Lib.hid (B0.out.below HB.out); clear B0; have B0 := Lib.hid X.out; clear X
          have X := Lib.hid (show Below w.heap.size w u7 from BW.out.trans (HB.out.mono BW.out.size)); clear BW; have BW := Lib.hid X.out; clear X
          have X := Lib.hid (O3.out.below HB.out); clear O3; have O3 := Lib.hid X.out; clear X
          have X := Lib.hid (XA.out.below HB.out); clear XA; have XA := Lib.hid X.out; clear X
          have O8 := Lib.hid (Own.mono ho (show w.heap.size ≤ _ from HSZ.out)); clear ho HSZ
          go_wp2
          refine ⟨Ext.of_below HB.out, ?_⟩
          clear HB
          refine wpT_actor rfl (by kernel_rfl) ?_
          go_wp2_with fail
          have HSZ := Lib.hid BW.out.size
          refine (Hs.out A'1 c'2 cs'7 _ O3.out.repAny O8.out.repAny).mono ?_; rintro e u8 ⟨cs'14, rfl, hM, hb⟩
          have Lcs14 := Lib.hid (show cs'14.length = 16 from hM.rep.length.trans (InstD.width _))
          obtain ⟨F16, hnd, ho⟩ := hM
          have N17 := Lib.hid hnd; clear hnd
          have D18 := Lib.hid (show ∀ b ∈ F4, b ∉ F16 from fun b hb he => by have h1 := (O3.out.in b hb).2; have h2 := (ho.in b he).1; omega)
          have D19 := Lib.hid (show ∀ b ∈ F16, b ∉ F4 from fun b he hb => by have h1 := (O3.out.in b hb).2; have h2 := (ho.in b he).1; omega)
          have D20 := Lib.hid (show ∀ b ∈ F9, b ∉ F16 from fun b hb he => by have h1 := (O8.out.in b hb).2; have h2 := (ho.in b he).1; omega)
          have D21 := Lib.hid (show ∀ b ∈ F16, b ∉ F9 from fun b he hb => by have h1 := (O8.out.in b hb).2; have h2 := (ho.in b he).1; omega)
          have D22 := Lib.hid (show w.heap.size ∉ F16 from fun he => by have h1 := B0.out.lt; have h2 := (ho.in _ he).1; omega)
          have D26 := Lib.hid (show pb ∉ F16 from fun he => by have h1 := XA.out.lt; have h2 := (ho.in _ he).1; omega)
          have HB := Lib.hid hb; clear hb
          have X := Lib.hid (B0.out.below HB.out); clear B0; have B0 := Lib.hid X.out; clear X
          have X := Lib.hid (show Below w.heap.size w u8 from BW.out.trans (HB.out.mono BW.out.size)); clear BW; have BW := Lib.hid X.out; clear X
          have X := Lib.hid (O3.out.below HB.out); clear O3; have O3 := Lib.hid X.out; clear X
          have X := Lib.hid (O8.out.below HB.out); clear O8; have O8 := Lib.hid X.out; clear X
          have X := Lib.hid (XA.out.below HB.out); clear XA; have XA := Lib.hid X.out; clear X
          have O15 := Lib.hid (Own.mono ho (show w.heap.size ≤ _ from HSZ.out)); clear ho HSZ
          go_wp2
          refine ⟨Ext.of_below HB.out, ?_⟩
          clear HB
          refine wpT_nil ?_
          try simp only [List.drop_succ_cons, List.drop_zero]
          refine wpList_store_row _ pb 49 0 cs'14 [] [.int .i64 0, .int .i64 0, .int .i64 0, .int .i64 0, .int .i64 0, .int .i64 0, .int .i64 0, .int .i64 0, .string ⟨#[]⟩, .string ⟨#[]⟩, .string ⟨#[]⟩, .int .i64 0, .slice none 0 0, .int .i64 0, .slice none 0 0, .bool false] [] _ rfl rfl (Lcs14.out ▸ agg_Inst) XA.out rfl rfl Lcs14.out.symm O15.out.one ?_; intro uu hsb hsg
          have hsb2 : Blk uu pb 49 cs'14.toArray := (by simpa using hsb)
          refine ⟨rfl, ?_⟩; rw [HJ.out]; exact ⟨A'1, c'2, cs'7, cs'14, F4, F9, F16, pb, rfl, Lcs7.out, Lcs14.out, N5.out, N10.out, N17.out, D6.out, D13.out, D22.out, D11.out, D12.out, D18.out, D19.out, D20.out, D21.out, D24.out, D25.out, D26.out, PW.out, B0.out.keep (hsg.block _ B0.out.lt (fun hk => by injection hk with hk; have := PW.out; omega)), Below.grown BW.out hsg BW.out.size (fun k hk => by injection hk with hk; have := PW.out; omega), O3.out.keep fun b hb => hsg.block b (O3.out.in b hb).2 (fun hk => by injection hk with hk; exact D24.out (hk ▸ hb)), O8.out.keep fun b hb => hsg.block b (O8.out.in b hb).2 (fun hk => by injection hk with hk; exact D25.out (hk ▸ hb)), O15.out.keep fun b hb => hsg.block b (O15.out.in b hb).2 (fun hk => by injection hk with hk; exact D26.out (hk ▸ hb)), hsb2⟩
      · skip
        go_wp2; refine ⟨Ext.alloc (Ext.refl _) _, ?_⟩
        have hb : Below (World.heap u).size u (World.alloc u (.cells #[.int .i64 0, .int .i64 0, .int .i64 0, .int .i64 0, .int .i64 0, .int .i64 0, .int .i64 0, .int .i64 0, .string ⟨#[]⟩, .string ⟨#[]⟩, .string ⟨#[]⟩, .int .i64 0, .slice none 0 0, .int .i64 0, .slice none 0 0, .bool false] 49)) := Below.alloc (Below.refl _ _) (Nat.le_refl _) _
        have hx : Blk (World.alloc u (.cells #[.int .i64 0, .int .i64 0, .int .i64 0, .int .i64 0, .int .i64 0, .int .i64 0, .int .i64 0, .int .i64 0, .string ⟨#[]⟩, .string ⟨#[]⟩, .string ⟨#[]⟩, .int .i64 0, .slice none 0 0, .int .i64 0, .slice none 0 0, .bool false] 49)) (World.heap u).size 49 #[.int .i64 0, .int .i64 0, .int .i64 0, .int .i64 0, .int .i64 0, .int .i64 0, .int .i64 0, .int .i64 0, .string ⟨#[]⟩, .string ⟨#[]⟩, .string ⟨#[]⟩, .int .i64 0, .slice none 0 0, .int .i64 0, .slice none 0 0, .bool false] := blk_new u _ _
        generalize World.alloc u (.cells #[.int .i64 0, .int .i64 0, .int .i64 0, .int .i64 0, .int .i64 0, .int .i64 0, .int .i64 0, .int .i64 0, .string ⟨#[]⟩, .string ⟨#[]⟩, .string ⟨#[]⟩, .int .i64 0, .slice none 0 0, .int .i64 0, .slice none 0 0, .bool false] 49) = u9 at hb hx ⊢
        obtain ⟨pb, hpb⟩ : ∃ pb, pb = (World.heap u).size := ⟨_, rfl⟩
        rw [← hpb] at hx ⊢
        have XA := Lib.hid hx; clear hx
        have PW := Lib.hid (show w.heap.size < pb by have h1 := B0.out.lt; omega)
        clear hpb
        have X := Lib.hid (B0.out.below hb); clear B0; have B0 := Lib.hid X.out; clear X
        have X := Lib.hid (show Below w.heap.size w u9 from BW.out.trans (hb.mono BW.out.size)); clear BW; have BW := Lib.hid X.out; clear X
        clear hb
        refine wpT_actor rfl (by kernel_rfl) ?_
        go_wp2_with fail
        have HSZ := Lib.hid BW.out.size
        refine (toInstS_any x0 A0 n0 c0 _ HN0.out (by omega) (RA0.out.below BW.out)).mono ?_; rintro e u10 ⟨A'1, c'2, rfl, hM, hb⟩
        obtain ⟨F4, hnd, ho⟩ := hM
        have N5 := Lib.hid hnd; clear hnd
        have D6 := Lib.hid (show w.heap.size ∉ F4 from fun he => by have h1 := B0.out.lt; have h2 := (ho.in _ he).1; omega)
        have D24 := Lib.hid (show pb ∉ F4 from fun he => by have h1 := XA.out.lt; have h2 := (ho.in _ he).1; omega)
        have HB := Lib.hid hb; clear hb
        have X := Lib.hid (B0.out.below HB.out); clear B0; have B0 := Lib.hid X.out; clear X
        have X := Lib.hid (show Below w.heap.size w u10 from BW.out.trans (HB.out.mono BW.out.size)); clear BW; have BW := Lib.hid X.out; clear X
        have X := Lib.hid (XA.out.below HB.out); clear XA; have XA := Lib.hid X.out; clear X
        have O3 := Lib.hid (Own.mono ho (show w.heap.size ≤ _ from HSZ.out)); clear ho HSZ
        go_wp2
        refine ⟨Ext.of_below HB.out, ?_⟩
        clear HB
        refine wpT_actor rfl (by kernel_rfl) ?_
        go_wp2_with fail
        have HSZ := Lib.hid BW.out.size
        refine (toId_any x1 cs1 _ (by exact Nat.zero_le _) (A1.out.below BW.out)).mono ?_; rintro e u11 ⟨cs'7, rfl, hM, hb⟩
        have Lcs7 := Lib.hid (show cs'7.length = 2 from hM.rep.length.trans (IdD.width _))
        obtain ⟨F9, hnd, ho⟩ := hM
        have N10 := Lib.hid hnd; clear hnd
        have D11 := Lib.hid (show ∀ b ∈ F4, b ∉ F9 from fun b hb he => by have h1 := (O3.out.in b hb).2; have h2 := (ho.in b he).1; omega)
        have D12 := Lib.hid (show ∀ b ∈ F9, b ∉ F4 from fun b he hb => by have h1 := (O3.out.in b hb).2; have h2 := (ho.in b he).1; omega)
        have D13 := Lib.hid (show w.heap.size ∉ F9 from fun he => by have h1 := B0.out.lt; have h2 := (ho.in _ he).1; omega)
        have D25 := Lib.hid (show pb ∉ F9 from fun he => by have h1 := XA.out.lt; have h2 := (ho.in _ he).1; omega)
        have HB := Lib.hid hb; clear hb
        have X := Lib.hid (B0.out.below HB.out); clear B0; have B0 := Lib.hid X.out; clear X
        have X := Lib.hid (show Below w.heap.size w u11 from BW.out.trans (HB.out.mono BW.out.size)); clear BW; have BW := Lib.hid X.out; clear X
        have X := Lib.hid (O3.out.below HB.out); clear O3; have O3 := Lib.hid X.out; clear X
        have X := Lib.hid (XA.out.below HB.out); clear XA; have XA := Lib.hid X.out; clear X
        have O8 := Lib.hid (Own.mono ho (show w.heap.size ≤ _ from HSZ.out)); clear ho HSZ
        go_wp2
        refine ⟨Ext.of_below HB.out, ?_⟩
        clear HB
        refine wpT_actor rfl (by kernel_rfl) ?_
        go_wp2_with fail
        have HSZ := Lib.hid BW.out.size
        refine (Hs.out A'1 c'2 cs'7 _ O3.out.repAny O8.out.repAny).mono ?_; rintro e u12 ⟨cs'14, rfl, hM, hb⟩
        have Lcs14 := Lib.hid (show cs'14.length = 16 from hM.rep.length.trans (InstD.width _))
        obtain ⟨F16, hnd, ho⟩ := hM
        have N17 := Lib.hid hnd; clear hnd
        have D18 := Lib.hid (show ∀ b ∈ F4, b ∉ F16 from fun b hb he => by have h1 := (O3.out.in b hb).2; have h2 := (ho.in b he).1; omega)
        have D19 := Lib.hid (show ∀ b ∈ F16, b ∉ F4 from fun b he hb => by have h1 := (O3.out.in b hb).2; have h2 := (ho.in b he).1; omega)
        have D20 := Lib.hid (show ∀ b ∈ F9, b ∉ F16 from fun b hb he => by have h1 := (O8.out.in b hb).2; have h2 := (ho.in b he).1; omega)
        have D21 := Lib.hid (show ∀ b ∈ F16, b ∉ F9 from fun b he hb => by have h1 := (O8.out.in b hb).2; have h2 := (ho.in b he).1; omega)
        have D22 := Lib.hid (show w.heap.size ∉ F16 from fun he => by have h1 := B0.out.lt; have h2 := (ho.in _ he).1; omega)
        have D26 := Lib.hid (show pb ∉ F16 from fun he => by have h1 := XA.out.lt; have h2 := (ho.in _ he).1; omega)
        have HB := Lib.hid hb; clear hb
        have X := Lib.hid (B0.out.below HB.out); clear B0; have B0 := Lib.hid X.out; clear X
        have X := Lib.hid (show Below w.heap.size w u12 from BW.out.trans (HB.out.mono BW.out.size)); clear BW; have BW := Lib.hid X.out; clear X
        have X := Lib.hid (O3.out.below HB.out); clear O3; have O3 := Lib.hid X.out; clear X
        have X := Lib.hid (O8.out.below HB.out); clear O8; have O8 := Lib.hid X.out; clear X
        have X := Lib.hid (XA.out.below HB.out); clear XA; have XA := Lib.hid X.out; clear X
        have O15 := Lib.hid (Own.mono ho (show w.heap.size ≤ _ from HSZ.out)); clear ho HSZ
        go_wp2
        refine ⟨Ext.of_below HB.out, ?_⟩
        clear HB
        refine wpT_nil ?_
        try simp only [List.drop_succ_cons, List.drop_zero]
        refine wpList_store_row _ pb 49 0 cs'14 [] [.int .i64 0, .int .i64 0, .int .i64 0, .int .i64 0, .int .i64 0, .int .i64 0, .int .i64 0, .int .i64 0, .string ⟨#[]⟩, .string ⟨#[]⟩, .string ⟨#[]⟩, .int .i64 0, .slice none 0 0, .int .i64 0, .slice none 0 0, .bool false] [] _ rfl rfl (Lcs14.out ▸ agg_Inst) XA.out rfl rfl Lcs14.out.symm O15.out.one ?_; intro uu hsb hsg
        have hsb2 : Blk uu pb 49 cs'14.toArray := (by simpa using hsb)
        refine ⟨rfl, ?_⟩; rw [HJ.out]; exact ⟨A'1, c'2, cs'7, cs'14, F4, F9, F16, pb, rfl, Lcs7.out, Lcs14.out, N5.out, N10.out, N17.out, D6.out, D13.out, D22.out, D11.out, D12.out, D18.out, D19.out, D20.out, D21.out, D24.out, D25.out, D26.out, PW.out, B0.out.keep (hsg.block _ B0.out.lt (fun hk => by injection hk with hk; have := PW.out; omega)), Below.grown BW.out hsg BW.out.size (fun k hk => by injection hk with hk; have := PW.out; omega), O3.out.keep fun b hb => hsg.block b (O3.out.in b hb).2 (fun hk => by injection hk with hk; exact D24.out (hk ▸ hb)), O8.out.keep fun b hb => hsg.block b (O8.out.in b hb).2 (fun hk => by injection hk with hk; exact D25.out (hk ▸ hb)), O15.out.keep fun b hb => hsg.block b (O15.out.in b hb).2 (fun hk => by injection hk with hk; exact D26.out (hk ▸ hb)), hsb2⟩
    rintro e a' v5 ⟨rfl, hj⟩; rw [HJ.out] at hj; clear HJ J; obtain ⟨A'1, c'2, cs'7, cs'14, F4, F9, F16, pb, rfl, hLcs7, hLcs14, hN5, hN10, hN17, hD6, hD13, hD22, hD11, hD12, hD18, hD19, hD20, hD21, hD24, hD25, hD26, hPW, hB0, hBW, hO3, hO8, hO15, hXB23⟩ := hj
    clear B0 BW
    have Lcs7 := Lib.hid hLcs7; clear hLcs7
    have Lcs14 := Lib.hid hLcs14; clear hLcs14
    have N5 := Lib.hid hN5; clear hN5
    have N10 := Lib.hid hN10; clear hN10
    have N17 := Lib.hid hN17; clear hN17
    have D6 := Lib.hid hD6; clear hD6
    have D13 := Lib.hid hD13; clear hD13
    have D22 := Lib.hid hD22; clear hD22
    have D11 := Lib.hid hD11; clear hD11
    have D12 := Lib.hid hD12; clear hD12
    have D18 := Lib.hid hD18; clear hD18
    have D19 := Lib.hid hD19; clear hD19
    have D20 := Lib.hid hD20; clear hD20
    have D21 := Lib.hid hD21; clear hD21
    have D24 := Lib.hid hD24; clear hD24
    have D25 := Lib.hid hD25; clear hD25
    have D26 := Lib.hid hD26; clear hD26
    have PW := Lib.hid hPW; clear hPW
    have B0 := Lib.hid hB0; clear hB0
    have BW := Lib.hid hBW; clear hBW
    have O3 := Lib.hid hO3; clear hO3
    have O8 := Lib.hid hO8; clear hO8
    have O15 := Lib.hid hO15; clear hO15
    have XB23 := Lib.hid hXB23; clear hXB23
    go_wp2_with (first | ((with_reducible show wpList _ _ _ ({ dst := _, op := Op.load 23 _, type := _, pos := _, after := _, guard := _ } :: _) _ _); refine wpList_load_row _ ⟨w.heap.size, 0, none⟩ rfl cs1 agg_lId HL1.out (blk_cells B0.out) ?_) | ((with_reducible show wpList _ _ _ ({ dst := _, op := Op.load 23 _, type := _, pos := _, after := _, guard := _ } :: _) _ _); refine wpList_load_row_g _ (by first | rfl | kernel_rfl) ⟨w.heap.size, 0, none⟩ rfl cs1 agg_lId HL1.out (blk_cells B0.out) ?_) | ((with_reducible show wpList _ _ _ ({ dst := _, op := Op.load 49 _, type := _, pos := _, after := _, guard := _ } :: _) _ _); refine wpList_load_row _ ⟨pb, 0, none⟩ rfl cs'14 agg_Inst Lcs14.out (blk_cells XB23.out) ?_) | ((with_reducible show wpList _ _ _ ({ dst := _, op := Op.load 49 _, type := _, pos := _, after := _, guard := _ } :: _) _ _); refine wpList_load_row_g _ (by first | rfl | kernel_rfl) ⟨pb, 0, none⟩ rfl cs'14 agg_Inst Lcs14.out (blk_cells XB23.out) ?_) | fail)
    have HSZ := Lib.hid BW.out.size
    refine (toInstS_any x0 A0 n0 c0 _ HN0.out (by omega) (RA0.out.below BW.out)).mono ?_; rintro e v6 ⟨A'27, c'28, rfl, hM, hb⟩
    obtain ⟨F30, hnd, ho⟩ := hM
    have N31 := Lib.hid hnd; clear hnd
    have D32 := Lib.hid (show ∀ b ∈ F4, b ∉ F30 from fun b hb he => by have h1 := (O3.out.in b hb).2; have h2 := (ho.in b he).1; first | omega | (revert h1 h2; simp; done) | (revert h1 h2; simp; omega))
    have D33 := Lib.hid (show ∀ b ∈ F30, b ∉ F4 from fun b he hb => by have h1 := (O3.out.in b hb).2; have h2 := (ho.in b he).1; first | omega | (revert h1 h2; simp; done) | (revert h1 h2; simp; omega))
    have D34 := Lib.hid (show ∀ b ∈ F9, b ∉ F30 from fun b hb he => by have h1 := (O8.out.in b hb).2; have h2 := (ho.in b he).1; first | omega | (revert h1 h2; simp; done) | (revert h1 h2; simp; omega))
    have D35 := Lib.hid (show ∀ b ∈ F30, b ∉ F9 from fun b he hb => by have h1 := (O8.out.in b hb).2; have h2 := (ho.in b he).1; first | omega | (revert h1 h2; simp; done) | (revert h1 h2; simp; omega))
    have D36 := Lib.hid (show ∀ b ∈ F16, b ∉ F30 from fun b hb he => by have h1 := (O15.out.in b hb).2; have h2 := (ho.in b he).1; first | omega | (revert h1 h2; simp; done) | (revert h1 h2; simp; omega))
    have D37 := Lib.hid (show ∀ b ∈ F30, b ∉ F16 from fun b he hb => by have h1 := (O15.out.in b hb).2; have h2 := (ho.in b he).1; first | omega | (revert h1 h2; simp; done) | (revert h1 h2; simp; omega))
    have D38 := Lib.hid (show pb ∉ F30 from fun he => by have h1 := XB23.out.lt; have h2 := (ho.in _ he).1; first | omega | (revert h1 h2; simp; done) | (revert h1 h2; simp; omega))
    have D39 := Lib.hid (show w.heap.size ∉ F30 from fun he => by have h1 := (show Blk v5 _ _ _ from B0.out).lt; have h2 := (ho.in _ he).1; first | omega | (revert h1 h2; simp; done) | (revert h1 h2; simp; omega))
    have hbs := hb.size
    have HBS := Lib.hid hbs; clear hbs
    have X := Lib.hid (B0.out.below hb); clear B0
    have B0 := Lib.hid X.out; clear X
    have X := Lib.hid (show Below w.heap.size w v6 from BW.out.trans (hb.mono BW.out.size)); clear BW
    have BW := Lib.hid X.out; clear X
    have X := Lib.hid (O3.out.below hb); clear O3
    have O3 := Lib.hid X.out; clear X
    have X := Lib.hid (O8.out.below hb); clear O8
    have O8 := Lib.hid X.out; clear X
    have X := Lib.hid (O15.out.below hb); clear O15
    have O15 := Lib.hid X.out; clear X
    have X := Lib.hid (XB23.out.below hb); clear XB23
    have XB23 := Lib.hid X.out; clear X
    clear hb
    have O29 := Lib.hid (Own.mono ho (show w.heap.size ≤ _ from HSZ.out)); clear ho HBS
    clear HSZ
    go_wp2_with (first | ((with_reducible show wpList _ _ _ ({ dst := _, op := Op.load 23 _, type := _, pos := _, after := _, guard := _ } :: _) _ _); refine wpList_load_row _ ⟨w.heap.size, 0, none⟩ rfl cs1 agg_lId HL1.out (blk_cells B0.out) ?_) | ((with_reducible show wpList _ _ _ ({ dst := _, op := Op.load 23 _, type := _, pos := _, after := _, guard := _ } :: _) _ _); refine wpList_load_row_g _ (by first | rfl | kernel_rfl) ⟨w.heap.size, 0, none⟩ rfl cs1 agg_lId HL1.out (blk_cells B0.out) ?_) | ((with_reducible show wpList _ _ _ ({ dst := _, op := Op.load 49 _, type := _, pos := _, after := _, guard := _ } :: _) _ _); refine wpList_load_row _ ⟨pb, 0, none⟩ rfl cs'14 agg_Inst Lcs14.out (blk_cells XB23.out) ?_) | ((with_reducible show wpList _ _ _ ({ dst := _, op := Op.load 49 _, type := _, pos := _, after := _, guard := _ } :: _) _ _); refine wpList_load_row_g _ (by first | rfl | kernel_rfl) ⟨pb, 0, none⟩ rfl cs'14 agg_Inst Lcs14.out (blk_cells XB23.out) ?_) | fail)
    have HSZ := Lib.hid BW.out.size
    refine (toId_any x1 cs1 _ (by exact Nat.zero_le _) (A1.out.below BW.out)).mono ?_; rintro e v7 ⟨cs'40, rfl, hM, hb⟩
    have Lcs40 := Lib.hid (show cs'40.length = 2 from hM.rep.length.trans (IdD.width _))
    obtain ⟨F42, hnd, ho⟩ := hM
    have N43 := Lib.hid hnd; clear hnd
    have D44 := Lib.hid (show ∀ b ∈ F4, b ∉ F42 from fun b hb he => by have h1 := (O3.out.in b hb).2; have h2 := (ho.in b he).1; first | omega | (revert h1 h2; simp; done) | (revert h1 h2; simp; omega))
    have D45 := Lib.hid (show ∀ b ∈ F42, b ∉ F4 from fun b he hb => by have h1 := (O3.out.in b hb).2; have h2 := (ho.in b he).1; first | omega | (revert h1 h2; simp; done) | (revert h1 h2; simp; omega))
    have D46 := Lib.hid (show ∀ b ∈ F9, b ∉ F42 from fun b hb he => by have h1 := (O8.out.in b hb).2; have h2 := (ho.in b he).1; first | omega | (revert h1 h2; simp; done) | (revert h1 h2; simp; omega))
    have D47 := Lib.hid (show ∀ b ∈ F42, b ∉ F9 from fun b he hb => by have h1 := (O8.out.in b hb).2; have h2 := (ho.in b he).1; first | omega | (revert h1 h2; simp; done) | (revert h1 h2; simp; omega))
    have D48 := Lib.hid (show ∀ b ∈ F16, b ∉ F42 from fun b hb he => by have h1 := (O15.out.in b hb).2; have h2 := (ho.in b he).1; first | omega | (revert h1 h2; simp; done) | (revert h1 h2; simp; omega))
    have D49 := Lib.hid (show ∀ b ∈ F42, b ∉ F16 from fun b he hb => by have h1 := (O15.out.in b hb).2; have h2 := (ho.in b he).1; first | omega | (revert h1 h2; simp; done) | (revert h1 h2; simp; omega))
    have D50 := Lib.hid (show ∀ b ∈ F30, b ∉ F42 from fun b hb he => by have h1 := (O29.out.in b hb).2; have h2 := (ho.in b he).1; first | omega | (revert h1 h2; simp; done) | (revert h1 h2; simp; omega))
    have D51 := Lib.hid (show ∀ b ∈ F42, b ∉ F30 from fun b he hb => by have h1 := (O29.out.in b hb).2; have h2 := (ho.in b he).1; first | omega | (revert h1 h2; simp; done) | (revert h1 h2; simp; omega))
    have D52 := Lib.hid (show pb ∉ F42 from fun he => by have h1 := XB23.out.lt; have h2 := (ho.in _ he).1; first | omega | (revert h1 h2; simp; done) | (revert h1 h2; simp; omega))
    have D53 := Lib.hid (show w.heap.size ∉ F42 from fun he => by have h1 := (show Blk v6 _ _ _ from B0.out).lt; have h2 := (ho.in _ he).1; first | omega | (revert h1 h2; simp; done) | (revert h1 h2; simp; omega))
    have hbs := hb.size
    have HBS := Lib.hid hbs; clear hbs
    have X := Lib.hid (B0.out.below hb); clear B0
    have B0 := Lib.hid X.out; clear X
    have X := Lib.hid (show Below w.heap.size w v7 from BW.out.trans (hb.mono BW.out.size)); clear BW
    have BW := Lib.hid X.out; clear X
    have X := Lib.hid (O3.out.below hb); clear O3
    have O3 := Lib.hid X.out; clear X
    have X := Lib.hid (O8.out.below hb); clear O8
    have O8 := Lib.hid X.out; clear X
    have X := Lib.hid (O15.out.below hb); clear O15
    have O15 := Lib.hid X.out; clear X
    have X := Lib.hid (O29.out.below hb); clear O29
    have O29 := Lib.hid X.out; clear X
    have X := Lib.hid (XB23.out.below hb); clear XB23
    have XB23 := Lib.hid X.out; clear X
    clear hb
    have O41 := Lib.hid (Own.mono ho (show w.heap.size ≤ _ from HSZ.out)); clear ho HBS
    clear HSZ
    go_wp2_with (first | ((with_reducible show wpList _ _ _ ({ dst := _, op := Op.load 23 _, type := _, pos := _, after := _, guard := _ } :: _) _ _); refine wpList_load_row _ ⟨w.heap.size, 0, none⟩ rfl cs1 agg_lId HL1.out (blk_cells B0.out) ?_) | ((with_reducible show wpList _ _ _ ({ dst := _, op := Op.load 23 _, type := _, pos := _, after := _, guard := _ } :: _) _ _); refine wpList_load_row_g _ (by first | rfl | kernel_rfl) ⟨w.heap.size, 0, none⟩ rfl cs1 agg_lId HL1.out (blk_cells B0.out) ?_) | ((with_reducible show wpList _ _ _ ({ dst := _, op := Op.load 49 _, type := _, pos := _, after := _, guard := _ } :: _) _ _); refine wpList_load_row _ ⟨pb, 0, none⟩ rfl cs'14 agg_Inst Lcs14.out (blk_cells XB23.out) ?_) | ((with_reducible show wpList _ _ _ ({ dst := _, op := Op.load 49 _, type := _, pos := _, after := _, guard := _ } :: _) _ _); refine wpList_load_row_g _ (by first | rfl | kernel_rfl) ⟨pb, 0, none⟩ rfl cs'14 agg_Inst Lcs14.out (blk_cells XB23.out) ?_) | fail)
    have HSZ := Lib.hid BW.out.size
    refine (Hi.out A'27 c'28 cs'40 _ O29.out.repAny O41.out.repAny).mono ?_; rintro e v8 ⟨cs'54, rfl, hM0, hb⟩
    have Lcs54 := Lib.hid (show cs'54.length = 16 from hM0.rep.length.trans (InstD.width _))
    obtain ⟨F56, hnd, ho⟩ := hM0
    have N57 := Lib.hid hnd; clear hnd
    have D58 := Lib.hid (show ∀ b ∈ F4, b ∉ F56 from fun b hb he => by have h1 := (O3.out.in b hb).2; have h2 := (ho.in b he).1; first | omega | (revert h1 h2; simp; done) | (revert h1 h2; simp; omega))
    have D59 := Lib.hid (show ∀ b ∈ F56, b ∉ F4 from fun b he hb => by have h1 := (O3.out.in b hb).2; have h2 := (ho.in b he).1; first | omega | (revert h1 h2; simp; done) | (revert h1 h2; simp; omega))
    have D60 := Lib.hid (show ∀ b ∈ F9, b ∉ F56 from fun b hb he => by have h1 := (O8.out.in b hb).2; have h2 := (ho.in b he).1; first | omega | (revert h1 h2; simp; done) | (revert h1 h2; simp; omega))
    have D61 := Lib.hid (show ∀ b ∈ F56, b ∉ F9 from fun b he hb => by have h1 := (O8.out.in b hb).2; have h2 := (ho.in b he).1; first | omega | (revert h1 h2; simp; done) | (revert h1 h2; simp; omega))
    have D62 := Lib.hid (show ∀ b ∈ F16, b ∉ F56 from fun b hb he => by have h1 := (O15.out.in b hb).2; have h2 := (ho.in b he).1; first | omega | (revert h1 h2; simp; done) | (revert h1 h2; simp; omega))
    have D63 := Lib.hid (show ∀ b ∈ F56, b ∉ F16 from fun b he hb => by have h1 := (O15.out.in b hb).2; have h2 := (ho.in b he).1; first | omega | (revert h1 h2; simp; done) | (revert h1 h2; simp; omega))
    have D64 := Lib.hid (show ∀ b ∈ F30, b ∉ F56 from fun b hb he => by have h1 := (O29.out.in b hb).2; have h2 := (ho.in b he).1; first | omega | (revert h1 h2; simp; done) | (revert h1 h2; simp; omega))
    have D65 := Lib.hid (show ∀ b ∈ F56, b ∉ F30 from fun b he hb => by have h1 := (O29.out.in b hb).2; have h2 := (ho.in b he).1; first | omega | (revert h1 h2; simp; done) | (revert h1 h2; simp; omega))
    have D66 := Lib.hid (show ∀ b ∈ F42, b ∉ F56 from fun b hb he => by have h1 := (O41.out.in b hb).2; have h2 := (ho.in b he).1; first | omega | (revert h1 h2; simp; done) | (revert h1 h2; simp; omega))
    have D67 := Lib.hid (show ∀ b ∈ F56, b ∉ F42 from fun b he hb => by have h1 := (O41.out.in b hb).2; have h2 := (ho.in b he).1; first | omega | (revert h1 h2; simp; done) | (revert h1 h2; simp; omega))
    have D68 := Lib.hid (show pb ∉ F56 from fun he => by have h1 := XB23.out.lt; have h2 := (ho.in _ he).1; first | omega | (revert h1 h2; simp; done) | (revert h1 h2; simp; omega))
    have D69 := Lib.hid (show w.heap.size ∉ F56 from fun he => by have h1 := (show Blk v7 _ _ _ from B0.out).lt; have h2 := (ho.in _ he).1; first | omega | (revert h1 h2; simp; done) | (revert h1 h2; simp; omega))
    have hbs := hb.size
    have HBS := Lib.hid hbs; clear hbs
    have X := Lib.hid (B0.out.below hb); clear B0
    have B0 := Lib.hid X.out; clear X
    have X := Lib.hid (show Below w.heap.size w v8 from BW.out.trans (hb.mono BW.out.size)); clear BW
    have BW := Lib.hid X.out; clear X
    have X := Lib.hid (O3.out.below hb); clear O3
    have O3 := Lib.hid X.out; clear X
    have X := Lib.hid (O8.out.below hb); clear O8
    have O8 := Lib.hid X.out; clear X
    have X := Lib.hid (O15.out.below hb); clear O15
    have O15 := Lib.hid X.out; clear X
    have X := Lib.hid (O29.out.below hb); clear O29
    have O29 := Lib.hid X.out; clear X
    have X := Lib.hid (O41.out.below hb); clear O41
    have O41 := Lib.hid X.out; clear X
    have X := Lib.hid (XB23.out.below hb); clear XB23
    have XB23 := Lib.hid X.out; clear X
    clear hb
    have O55 := Lib.hid (Own.mono ho (show w.heap.size ≤ _ from HSZ.out)); clear ho HBS
    clear HSZ
    go_wp2_with (first | ((with_reducible show wpList _ _ _ ({ dst := _, op := Op.load 23 _, type := _, pos := _, after := _, guard := _ } :: _) _ _); refine wpList_load_row _ ⟨w.heap.size, 0, none⟩ rfl cs1 agg_lId HL1.out (blk_cells B0.out) ?_) | ((with_reducible show wpList _ _ _ ({ dst := _, op := Op.load 23 _, type := _, pos := _, after := _, guard := _ } :: _) _ _); refine wpList_load_row_g _ (by first | rfl | kernel_rfl) ⟨w.heap.size, 0, none⟩ rfl cs1 agg_lId HL1.out (blk_cells B0.out) ?_) | ((with_reducible show wpList _ _ _ ({ dst := _, op := Op.load 49 _, type := _, pos := _, after := _, guard := _ } :: _) _ _); refine wpList_load_row _ ⟨pb, 0, none⟩ rfl cs'14 agg_Inst Lcs14.out (blk_cells XB23.out) ?_) | ((with_reducible show wpList _ _ _ ({ dst := _, op := Op.load 49 _, type := _, pos := _, after := _, guard := _ } :: _) _ _); refine wpList_load_row_g _ (by first | rfl | kernel_rfl) ⟨pb, 0, none⟩ rfl cs'14 agg_Inst Lcs14.out (blk_cells XB23.out) ?_) | ((with_reducible show wpList _ _ _ ({ dst := _, op := Op.load 49 _, type := _, pos := _, after := _, guard := _ } :: _) _ _); refine wpList_load_row _ ⟨World.heap v8 |>.size, 0, none⟩ rfl cs'54 agg_Inst Lcs54.out (blk_cells XB70.out) ?_) | ((with_reducible show wpList _ _ _ ({ dst := _, op := Op.store 49 _ _, type := _, pos := _, after := _, guard := _ } :: _) _ _); refine wpList_store_row _ (World.heap v8).size 49 0 cs'54 [] [.int .i64 0, .int .i64 0, .int .i64 0, .int .i64 0, .int .i64 0, .int .i64 0, .int .i64 0, .int .i64 0, .string ⟨#[]⟩, .string ⟨#[]⟩, .string ⟨#[]⟩, .int .i64 0, .slice none 0 0, .int .i64 0, .slice none 0 0, .bool false] [] _ rfl rfl (Lcs54.out ▸ agg_Inst) (blk_new v8 _ _) rfl rfl Lcs54.out.symm O55.out.one ?_; intro v9 hsb hsg; have hb : Below (World.heap v8).size v8 v9 := Below.grown (Below.alloc (Below.refl _ _) (Nat.le_refl _) _) hsg (by simp) (fun k hk => by injection hk with hk; omega); have hsb2 : Blk v9 (World.heap v8).size 49 cs'54.toArray := (by simpa using hsb); have XB70 := Lib.hid hsb2; clear hsb hsb2 hsg; have D71 := Lib.hid (show (World.heap v8).size ∉ F4 from fun he => by have h1 := (O3.out.in _ he).2; omega); have D72 := Lib.hid (show (World.heap v8).size ∉ F9 from fun he => by have h1 := (O8.out.in _ he).2; omega); have D73 := Lib.hid (show (World.heap v8).size ∉ F16 from fun he => by have h1 := (O15.out.in _ he).2; omega); have D74 := Lib.hid (show (World.heap v8).size ∉ F30 from fun he => by have h1 := (O29.out.in _ he).2; omega); have D75 := Lib.hid (show (World.heap v8).size ∉ F42 from fun he => by have h1 := (O41.out.in _ he).2; omega); have D76 := Lib.hid (show (World.heap v8).size ∉ F56 from fun he => by have h1 := (O55.out.in _ he).2; omega); have X := Lib.hid (B0.out.below hb); clear B0; have B0 := Lib.hid X.out; clear X; have X := Lib.hid (show Below w.heap.size w v9 from BW.out.trans (hb.mono BW.out.size)); clear BW; have BW := Lib.hid X.out; clear X; have X := Lib.hid (O3.out.below hb); clear O3; have O3 := Lib.hid X.out; clear X; have X := Lib.hid (O8.out.below hb); clear O8; have O8 := Lib.hid X.out; clear X; have X := Lib.hid (O15.out.below hb); clear O15; have O15 := Lib.hid X.out; clear X; have X := Lib.hid (O29.out.below hb); clear O29; have O29 := Lib.hid X.out; clear X; have X := Lib.hid (O41.out.below hb); clear O41; have O41 := Lib.hid X.out; clear X; have X := Lib.hid (O55.out.below hb); clear O55; have O55 := Lib.hid X.out; clear X; have X := Lib.hid (XB23.out.below hb); clear XB23; have XB23 := Lib.hid X.out; clear X; clear hb) | fail)
    go_wp2_with (first | ((with_reducible show wpList _ _ _ ({ dst := _, op := Op.load 23 _, type := _, pos := _, after := _, guard := _ } :: _) _ _); refine wpList_load_row _ ⟨w.heap.size, 0, none⟩ rfl cs1 agg_lId HL1.out (blk_cells B0.out) ?_) | ((with_reducible show wpList _ _ _ ({ dst := _, op := Op.load 23 _, type := _, pos := _, after := _, guard := _ } :: _) _ _); refine wpList_load_row_g _ (by first | rfl | kernel_rfl) ⟨w.heap.size, 0, none⟩ rfl cs1 agg_lId HL1.out (blk_cells B0.out) ?_) | ((with_reducible show wpList _ _ _ ({ dst := _, op := Op.load 49 _, type := _, pos := _, after := _, guard := _ } :: _) _ _); refine wpList_load_row _ ⟨pb, 0, none⟩ rfl cs'14 agg_Inst Lcs14.out (blk_cells XB23.out) ?_) | ((with_reducible show wpList _ _ _ ({ dst := _, op := Op.load 49 _, type := _, pos := _, after := _, guard := _ } :: _) _ _); refine wpList_load_row_g _ (by first | rfl | kernel_rfl) ⟨pb, 0, none⟩ rfl cs'14 agg_Inst Lcs14.out (blk_cells XB23.out) ?_) | ((with_reducible show wpList _ _ _ ({ dst := _, op := Op.load 49 _, type := _, pos := _, after := _, guard := _ } :: _) _ _); refine wpList_load_row _ ⟨(World.heap v8).size, 0, none⟩ rfl cs'54 agg_Inst Lcs54.out (blk_cells XB70.out) ?_) | ((with_reducible show wpList _ _ _ ({ dst := _, op := Op.load 49 _, type := _, pos := _, after := _, guard := _ } :: _) _ _); refine wpList_load_row_g _ (by first | rfl | kernel_rfl) ⟨(World.heap v8).size, 0, none⟩ rfl cs'54 agg_Inst Lcs54.out (blk_cells XB70.out) ?_) | fail)
    have HSZ := Lib.hid BW.out.size
    refine (eqInst_any r0 cs'54 cs'14 _ (by first | omega | (have := HWT.out; omega)) O55.out.repAny O15.out.repAny).mono ?_; rintro e v10 ⟨rfl, hb⟩
    have X := Lib.hid (B0.out.below hb); clear B0
    have B0 := Lib.hid X.out; clear X
    have X := Lib.hid (show Below w.heap.size w v10 from BW.out.trans (hb.mono BW.out.size)); clear BW
    have BW := Lib.hid X.out; clear X
    have X := Lib.hid (O3.out.below hb); clear O3
    have O3 := Lib.hid X.out; clear X
    have X := Lib.hid (O8.out.below hb); clear O8
    have O8 := Lib.hid X.out; clear X
    have X := Lib.hid (O15.out.below hb); clear O15
    have O15 := Lib.hid X.out; clear X
    have X := Lib.hid (O29.out.below hb); clear O29
    have O29 := Lib.hid X.out; clear X
    have X := Lib.hid (O41.out.below hb); clear O41
    have O41 := Lib.hid X.out; clear X
    have X := Lib.hid (O55.out.below hb); clear O55
    have O55 := Lib.hid X.out; clear X
    have X := Lib.hid (XB23.out.below hb); clear XB23
    have XB23 := Lib.hid X.out; clear X
    have X := Lib.hid (XB70.out.below hb); clear XB70
    have XB70 := Lib.hid X.out; clear X
    clear hb
    clear HSZ
    go_wp2_with (first | ((with_reducible show wpList _ _ _ ({ dst := _, op := Op.load 23 _, type := _, pos := _, after := _, guard := _ } :: _) _ _); refine wpList_load_row _ ⟨w.heap.size, 0, none⟩ rfl cs1 agg_lId HL1.out (blk_cells B0.out) ?_) | ((with_reducible show wpList _ _ _ ({ dst := _, op := Op.load 23 _, type := _, pos := _, after := _, guard := _ } :: _) _ _); refine wpList_load_row_g _ (by first | rfl | kernel_rfl) ⟨w.heap.size, 0, none⟩ rfl cs1 agg_lId HL1.out (blk_cells B0.out) ?_) | ((with_reducible show wpList _ _ _ ({ dst := _, op := Op.load 49 _, type := _, pos := _, after := _, guard := _ } :: _) _ _); refine wpList_load_row _ ⟨pb, 0, none⟩ rfl cs'14 agg_Inst Lcs14.out (blk_cells XB23.out) ?_) | ((with_reducible show wpList _ _ _ ({ dst := _, op := Op.load 49 _, type := _, pos := _, after := _, guard := _ } :: _) _ _); refine wpList_load_row_g _ (by first | rfl | kernel_rfl) ⟨pb, 0, none⟩ rfl cs'14 agg_Inst Lcs14.out (blk_cells XB23.out) ?_) | ((with_reducible show wpList _ _ _ ({ dst := _, op := Op.load 49 _, type := _, pos := _, after := _, guard := _ } :: _) _ _); refine wpList_load_row _ ⟨(World.heap v8).size, 0, none⟩ rfl cs'54 agg_Inst Lcs54.out (blk_cells XB70.out) ?_) | ((with_reducible show wpList _ _ _ ({ dst := _, op := Op.load 49 _, type := _, pos := _, after := _, guard := _ } :: _) _ _); refine wpList_load_row_g _ (by first | rfl | kernel_rfl) ⟨(World.heap v8).size, 0, none⟩ rfl cs'54 agg_Inst Lcs54.out (blk_cells XB70.out) ?_) | fail)
    have HSZ := Lib.hid BW.out.size
    refine (toInstS_any x0 A0 n0 c0 _ HN0.out (by omega) (RA0.out.below BW.out)).mono ?_; rintro e v11 ⟨A'77, c'78, rfl, hM, hb⟩
    obtain ⟨F80, hnd, ho⟩ := hM
    have N81 := Lib.hid hnd; clear hnd
    have D82 := Lib.hid (show ∀ b ∈ F4, b ∉ F80 from fun b hb he => by have h1 := (O3.out.in b hb).2; have h2 := (ho.in b he).1; first | omega | (revert h1 h2; simp; done) | (revert h1 h2; simp; omega))
    have D83 := Lib.hid (show ∀ b ∈ F80, b ∉ F4 from fun b he hb => by have h1 := (O3.out.in b hb).2; have h2 := (ho.in b he).1; first | omega | (revert h1 h2; simp; done) | (revert h1 h2; simp; omega))
    have D84 := Lib.hid (show ∀ b ∈ F9, b ∉ F80 from fun b hb he => by have h1 := (O8.out.in b hb).2; have h2 := (ho.in b he).1; first | omega | (revert h1 h2; simp; done) | (revert h1 h2; simp; omega))
    have D85 := Lib.hid (show ∀ b ∈ F80, b ∉ F9 from fun b he hb => by have h1 := (O8.out.in b hb).2; have h2 := (ho.in b he).1; first | omega | (revert h1 h2; simp; done) | (revert h1 h2; simp; omega))
    have D86 := Lib.hid (show ∀ b ∈ F16, b ∉ F80 from fun b hb he => by have h1 := (O15.out.in b hb).2; have h2 := (ho.in b he).1; first | omega | (revert h1 h2; simp; done) | (revert h1 h2; simp; omega))
    have D87 := Lib.hid (show ∀ b ∈ F80, b ∉ F16 from fun b he hb => by have h1 := (O15.out.in b hb).2; have h2 := (ho.in b he).1; first | omega | (revert h1 h2; simp; done) | (revert h1 h2; simp; omega))
    have D88 := Lib.hid (show ∀ b ∈ F30, b ∉ F80 from fun b hb he => by have h1 := (O29.out.in b hb).2; have h2 := (ho.in b he).1; first | omega | (revert h1 h2; simp; done) | (revert h1 h2; simp; omega))
    have D89 := Lib.hid (show ∀ b ∈ F80, b ∉ F30 from fun b he hb => by have h1 := (O29.out.in b hb).2; have h2 := (ho.in b he).1; first | omega | (revert h1 h2; simp; done) | (revert h1 h2; simp; omega))
    have D90 := Lib.hid (show ∀ b ∈ F42, b ∉ F80 from fun b hb he => by have h1 := (O41.out.in b hb).2; have h2 := (ho.in b he).1; first | omega | (revert h1 h2; simp; done) | (revert h1 h2; simp; omega))
    have D91 := Lib.hid (show ∀ b ∈ F80, b ∉ F42 from fun b he hb => by have h1 := (O41.out.in b hb).2; have h2 := (ho.in b he).1; first | omega | (revert h1 h2; simp; done) | (revert h1 h2; simp; omega))
    have D92 := Lib.hid (show ∀ b ∈ F56, b ∉ F80 from fun b hb he => by have h1 := (O55.out.in b hb).2; have h2 := (ho.in b he).1; first | omega | (revert h1 h2; simp; done) | (revert h1 h2; simp; omega))
    have D93 := Lib.hid (show ∀ b ∈ F80, b ∉ F56 from fun b he hb => by have h1 := (O55.out.in b hb).2; have h2 := (ho.in b he).1; first | omega | (revert h1 h2; simp; done) | (revert h1 h2; simp; omega))
    have D94 := Lib.hid (show pb ∉ F80 from fun he => by have h1 := XB23.out.lt; have h2 := (ho.in _ he).1; first | omega | (revert h1 h2; simp; done) | (revert h1 h2; simp; omega))
    have D95 := Lib.hid (show (World.heap v8).size ∉ F80 from fun he => by have h1 := XB70.out.lt; have h2 := (ho.in _ he).1; first | omega | (revert h1 h2; simp; done) | (revert h1 h2; simp; omega))
    have D96 := Lib.hid (show w.heap.size ∉ F80 from fun he => by have h1 := (show Blk v10 _ _ _ from B0.out).lt; have h2 := (ho.in _ he).1; first | omega | (revert h1 h2; simp; done) | (revert h1 h2; simp; omega))
    have hbs := hb.size
    have HBS := Lib.hid hbs; clear hbs
    have X := Lib.hid (B0.out.below hb); clear B0
    have B0 := Lib.hid X.out; clear X
    have X := Lib.hid (show Below w.heap.size w v11 from BW.out.trans (hb.mono BW.out.size)); clear BW
    have BW := Lib.hid X.out; clear X
    have X := Lib.hid (O3.out.below hb); clear O3
    have O3 := Lib.hid X.out; clear X
    have X := Lib.hid (O8.out.below hb); clear O8
    have O8 := Lib.hid X.out; clear X
    have X := Lib.hid (O15.out.below hb); clear O15
    have O15 := Lib.hid X.out; clear X
    have X := Lib.hid (O29.out.below hb); clear O29
    have O29 := Lib.hid X.out; clear X
    have X := Lib.hid (O41.out.below hb); clear O41
    have O41 := Lib.hid X.out; clear X
    have X := Lib.hid (O55.out.below hb); clear O55
    have O55 := Lib.hid X.out; clear X
    have X := Lib.hid (XB23.out.below hb); clear XB23
    have XB23 := Lib.hid X.out; clear X
    have X := Lib.hid (XB70.out.below hb); clear XB70
    have XB70 := Lib.hid X.out; clear X
    clear hb
    have O79 := Lib.hid (Own.mono ho (show w.heap.size ≤ _ from HSZ.out)); clear ho HBS
    clear HSZ
    go_wp2_with (first | ((with_reducible show wpList _ _ _ ({ dst := _, op := Op.load 23 _, type := _, pos := _, after := _, guard := _ } :: _) _ _); refine wpList_load_row _ ⟨w.heap.size, 0, none⟩ rfl cs1 agg_lId HL1.out (blk_cells B0.out) ?_) | ((with_reducible show wpList _ _ _ ({ dst := _, op := Op.load 23 _, type := _, pos := _, after := _, guard := _ } :: _) _ _); refine wpList_load_row_g _ (by first | rfl | kernel_rfl) ⟨w.heap.size, 0, none⟩ rfl cs1 agg_lId HL1.out (blk_cells B0.out) ?_) | ((with_reducible show wpList _ _ _ ({ dst := _, op := Op.load 49 _, type := _, pos := _, after := _, guard := _ } :: _) _ _); refine wpList_load_row _ ⟨pb, 0, none⟩ rfl cs'14 agg_Inst Lcs14.out (blk_cells XB23.out) ?_) | ((with_reducible show wpList _ _ _ ({ dst := _, op := Op.load 49 _, type := _, pos := _, after := _, guard := _ } :: _) _ _); refine wpList_load_row_g _ (by first | rfl | kernel_rfl) ⟨pb, 0, none⟩ rfl cs'14 agg_Inst Lcs14.out (blk_cells XB23.out) ?_) | ((with_reducible show wpList _ _ _ ({ dst := _, op := Op.load 49 _, type := _, pos := _, after := _, guard := _ } :: _) _ _); refine wpList_load_row _ ⟨(World.heap v8).size, 0, none⟩ rfl cs'54 agg_Inst Lcs54.out (blk_cells XB70.out) ?_) | ((with_reducible show wpList _ _ _ ({ dst := _, op := Op.load 49 _, type := _, pos := _, after := _, guard := _ } :: _) _ _); refine wpList_load_row_g _ (by first | rfl | kernel_rfl) ⟨(World.heap v8).size, 0, none⟩ rfl cs'54 agg_Inst Lcs54.out (blk_cells XB70.out) ?_) | fail)
    have HSZ := Lib.hid BW.out.size
    refine (eqInstS_any x0 A'27 A'77 n0 c'28 c'78 _ HN0.out (by omega) O29.out.repAny O79.out.repAny).mono ?_; rintro e v12 ⟨rfl, hb⟩
    have X := Lib.hid (B0.out.below hb); clear B0
    have B0 := Lib.hid X.out; clear X
    have X := Lib.hid (show Below w.heap.size w v12 from BW.out.trans (hb.mono BW.out.size)); clear BW
    have BW := Lib.hid X.out; clear X
    have X := Lib.hid (O3.out.below hb); clear O3
    have O3 := Lib.hid X.out; clear X
    have X := Lib.hid (O8.out.below hb); clear O8
    have O8 := Lib.hid X.out; clear X
    have X := Lib.hid (O15.out.below hb); clear O15
    have O15 := Lib.hid X.out; clear X
    have X := Lib.hid (O29.out.below hb); clear O29
    have O29 := Lib.hid X.out; clear X
    have X := Lib.hid (O41.out.below hb); clear O41
    have O41 := Lib.hid X.out; clear X
    have X := Lib.hid (O55.out.below hb); clear O55
    have O55 := Lib.hid X.out; clear X
    have X := Lib.hid (O79.out.below hb); clear O79
    have O79 := Lib.hid X.out; clear X
    have X := Lib.hid (XB23.out.below hb); clear XB23
    have XB23 := Lib.hid X.out; clear X
    have X := Lib.hid (XB70.out.below hb); clear XB70
    have XB70 := Lib.hid X.out; clear X
    clear hb
    clear HSZ
    go_wp2_with (first | ((with_reducible show wpList _ _ _ ({ dst := _, op := Op.load 23 _, type := _, pos := _, after := _, guard := _ } :: _) _ _); refine wpList_load_row _ ⟨w.heap.size, 0, none⟩ rfl cs1 agg_lId HL1.out (blk_cells B0.out) ?_) | ((with_reducible show wpList _ _ _ ({ dst := _, op := Op.load 23 _, type := _, pos := _, after := _, guard := _ } :: _) _ _); refine wpList_load_row_g _ (by first | rfl | kernel_rfl) ⟨w.heap.size, 0, none⟩ rfl cs1 agg_lId HL1.out (blk_cells B0.out) ?_) | ((with_reducible show wpList _ _ _ ({ dst := _, op := Op.load 49 _, type := _, pos := _, after := _, guard := _ } :: _) _ _); refine wpList_load_row _ ⟨pb, 0, none⟩ rfl cs'14 agg_Inst Lcs14.out (blk_cells XB23.out) ?_) | ((with_reducible show wpList _ _ _ ({ dst := _, op := Op.load 49 _, type := _, pos := _, after := _, guard := _ } :: _) _ _); refine wpList_load_row_g _ (by first | rfl | kernel_rfl) ⟨pb, 0, none⟩ rfl cs'14 agg_Inst Lcs14.out (blk_cells XB23.out) ?_) | ((with_reducible show wpList _ _ _ ({ dst := _, op := Op.load 49 _, type := _, pos := _, after := _, guard := _ } :: _) _ _); refine wpList_load_row _ ⟨(World.heap v8).size, 0, none⟩ rfl cs'54 agg_Inst Lcs54.out (blk_cells XB70.out) ?_) | ((with_reducible show wpList _ _ _ ({ dst := _, op := Op.load 49 _, type := _, pos := _, after := _, guard := _ } :: _) _ _); refine wpList_load_row_g _ (by first | rfl | kernel_rfl) ⟨(World.heap v8).size, 0, none⟩ rfl cs'54 agg_Inst Lcs54.out (blk_cells XB70.out) ?_) | fail)
    have HSZ := Lib.hid BW.out.size
    refine (markInstS_any x0 (1) _ w.heap.size A'27 n0 c'28 F30 _ HN0.out (by first | rfl | omega) (by omega) (by first | omega | (have := HCN.out; omega) | (have := HCX0.out; have := HN0.out; omega)) N31.out O29.out).mono ?_; rintro e v13 ⟨q97, rfl, hq, ho, hm⟩
    have hq0 : 0 ≤ q97 := by omega
    have HY98 := Lib.hid hq; clear hq
    have q97z := Lib.hid hq0
    have hdq97 : decide (q97 < 0) = false := by simp only [decide_eq_false_iff_not]; omega
    have X := Lib.hid (B0.out.mod hm D39.out); clear B0
    have B0 := Lib.hid X.out; clear X
    have X := Lib.hid (XB23.out.mod hm D38.out); clear XB23
    have XB23 := Lib.hid X.out; clear X
    have X := Lib.hid (XB70.out.mod hm D74.out); clear XB70
    have XB70 := Lib.hid X.out; clear X
    have X := Lib.hid (O3.out.mod1 hm D32.out); clear O3
    have O3 := Lib.hid X.out; clear X
    have X := Lib.hid (O8.out.mod1 hm D34.out); clear O8
    have O8 := Lib.hid X.out; clear X
    have X := Lib.hid (O15.out.mod1 hm D36.out); clear O15
    have O15 := Lib.hid X.out; clear X
    have X := Lib.hid (O41.out.mod1 hm D51.out); clear O41
    have O41 := Lib.hid X.out; clear X
    have X := Lib.hid (O55.out.mod1 hm D65.out); clear O55
    have O55 := Lib.hid X.out; clear X
    have X := Lib.hid (O79.out.mod1 hm D89.out); clear O79
    have O79 := Lib.hid X.out; clear X
    have X := Lib.hid (show Below w.heap.size w v13 from Mod.below BW.out hm BW.out.size (fun b hb => (O29.out.in b hb).1)); clear BW O29
    have BW := Lib.hid X.out; clear X
    have O29 := Lib.hid ho; clear ho hm
    clear HSZ
    go_wp2_with (first | ((with_reducible show wpList _ _ _ ({ dst := _, op := Op.load 23 _, type := _, pos := _, after := _, guard := _ } :: _) _ _); refine wpList_load_row _ ⟨w.heap.size, 0, none⟩ rfl cs1 agg_lId HL1.out (blk_cells B0.out) ?_) | ((with_reducible show wpList _ _ _ ({ dst := _, op := Op.load 23 _, type := _, pos := _, after := _, guard := _ } :: _) _ _); refine wpList_load_row_g _ (by first | rfl | kernel_rfl) ⟨w.heap.size, 0, none⟩ rfl cs1 agg_lId HL1.out (blk_cells B0.out) ?_) | ((with_reducible show wpList _ _ _ ({ dst := _, op := Op.load 49 _, type := _, pos := _, after := _, guard := _ } :: _) _ _); refine wpList_load_row _ ⟨pb, 0, none⟩ rfl cs'14 agg_Inst Lcs14.out (blk_cells XB23.out) ?_) | ((with_reducible show wpList _ _ _ ({ dst := _, op := Op.load 49 _, type := _, pos := _, after := _, guard := _ } :: _) _ _); refine wpList_load_row_g _ (by first | rfl | kernel_rfl) ⟨pb, 0, none⟩ rfl cs'14 agg_Inst Lcs14.out (blk_cells XB23.out) ?_) | ((with_reducible show wpList _ _ _ ({ dst := _, op := Op.load 49 _, type := _, pos := _, after := _, guard := _ } :: _) _ _); refine wpList_load_row _ ⟨(World.heap v8).size, 0, none⟩ rfl cs'54 agg_Inst Lcs54.out (blk_cells XB70.out) ?_) | ((with_reducible show wpList _ _ _ ({ dst := _, op := Op.load 49 _, type := _, pos := _, after := _, guard := _ } :: _) _ _); refine wpList_load_row_g _ (by first | rfl | kernel_rfl) ⟨(World.heap v8).size, 0, none⟩ rfl cs'54 agg_Inst Lcs54.out (blk_cells XB70.out) ?_) | fail)
    have HSZ := Lib.hid BW.out.size
    refine (eqInst_any r0 cs'54 cs'14 _ (by first | omega | (have := HWT.out; omega)) O55.out.repAny O15.out.repAny).mono ?_; rintro e v14 ⟨rfl, hb⟩
    have X := Lib.hid (B0.out.below hb); clear B0
    have B0 := Lib.hid X.out; clear X
    have X := Lib.hid (show Below w.heap.size w v14 from BW.out.trans (hb.mono BW.out.size)); clear BW
    have BW := Lib.hid X.out; clear X
    have X := Lib.hid (O3.out.below hb); clear O3
    have O3 := Lib.hid X.out; clear X
    have X := Lib.hid (O8.out.below hb); clear O8
    have O8 := Lib.hid X.out; clear X
    have X := Lib.hid (O15.out.below hb); clear O15
    have O15 := Lib.hid X.out; clear X
    have X := Lib.hid (O29.out.below hb); clear O29
    have O29 := Lib.hid X.out; clear X
    have X := Lib.hid (O41.out.below hb); clear O41
    have O41 := Lib.hid X.out; clear X
    have X := Lib.hid (O55.out.below hb); clear O55
    have O55 := Lib.hid X.out; clear X
    have X := Lib.hid (O79.out.below hb); clear O79
    have O79 := Lib.hid X.out; clear X
    have X := Lib.hid (XB23.out.below hb); clear XB23
    have XB23 := Lib.hid X.out; clear X
    have X := Lib.hid (XB70.out.below hb); clear XB70
    have XB70 := Lib.hid X.out; clear X
    clear hb
    clear HSZ
    go_wp2_with (first | ((with_reducible show wpList _ _ _ ({ dst := _, op := Op.load 23 _, type := _, pos := _, after := _, guard := _ } :: _) _ _); refine wpList_load_row _ ⟨w.heap.size, 0, none⟩ rfl cs1 agg_lId HL1.out (blk_cells B0.out) ?_) | ((with_reducible show wpList _ _ _ ({ dst := _, op := Op.load 23 _, type := _, pos := _, after := _, guard := _ } :: _) _ _); refine wpList_load_row_g _ (by first | rfl | kernel_rfl) ⟨w.heap.size, 0, none⟩ rfl cs1 agg_lId HL1.out (blk_cells B0.out) ?_) | ((with_reducible show wpList _ _ _ ({ dst := _, op := Op.load 49 _, type := _, pos := _, after := _, guard := _ } :: _) _ _); refine wpList_load_row _ ⟨pb, 0, none⟩ rfl cs'14 agg_Inst Lcs14.out (blk_cells XB23.out) ?_) | ((with_reducible show wpList _ _ _ ({ dst := _, op := Op.load 49 _, type := _, pos := _, after := _, guard := _ } :: _) _ _); refine wpList_load_row_g _ (by first | rfl | kernel_rfl) ⟨pb, 0, none⟩ rfl cs'14 agg_Inst Lcs14.out (blk_cells XB23.out) ?_) | ((with_reducible show wpList _ _ _ ({ dst := _, op := Op.load 49 _, type := _, pos := _, after := _, guard := _ } :: _) _ _); refine wpList_load_row _ ⟨(World.heap v8).size, 0, none⟩ rfl cs'54 agg_Inst Lcs54.out (blk_cells XB70.out) ?_) | ((with_reducible show wpList _ _ _ ({ dst := _, op := Op.load 49 _, type := _, pos := _, after := _, guard := _ } :: _) _ _); refine wpList_load_row_g _ (by first | rfl | kernel_rfl) ⟨(World.heap v8).size, 0, none⟩ rfl cs'54 agg_Inst Lcs54.out (blk_cells XB70.out) ?_) | fail)
    have HSZ := Lib.hid BW.out.size
    refine (markInst_any r0 (1) _ w.heap.size cs'54 F56 _ (by first | rfl | omega) (by omega) (by first | omega | (have := HCN.out; omega) | (have := HCX0.out; have := HN0.out; omega)) N57.out O55.out).mono ?_; rintro e v15 ⟨q99, rfl, hq, ho, hm⟩
    have hq0 : 0 ≤ q99 := by omega
    have HY100 := Lib.hid hq; clear hq
    have q99z := Lib.hid hq0
    have hdq99 : decide (q99 < 0) = false := by simp only [decide_eq_false_iff_not]; omega
    have X := Lib.hid (B0.out.mod hm D69.out); clear B0
    have B0 := Lib.hid X.out; clear X
    have X := Lib.hid (XB23.out.mod hm D68.out); clear XB23
    have XB23 := Lib.hid X.out; clear X
    have X := Lib.hid (XB70.out.mod hm D76.out); clear XB70
    have XB70 := Lib.hid X.out; clear X
    have X := Lib.hid (O3.out.mod1 hm D58.out); clear O3
    have O3 := Lib.hid X.out; clear X
    have X := Lib.hid (O8.out.mod1 hm D60.out); clear O8
    have O8 := Lib.hid X.out; clear X
    have X := Lib.hid (O15.out.mod1 hm D62.out); clear O15
    have O15 := Lib.hid X.out; clear X
    have X := Lib.hid (O29.out.mod1 hm D64.out); clear O29
    have O29 := Lib.hid X.out; clear X
    have X := Lib.hid (O41.out.mod1 hm D66.out); clear O41
    have O41 := Lib.hid X.out; clear X
    have X := Lib.hid (O79.out.mod1 hm D93.out); clear O79
    have O79 := Lib.hid X.out; clear X
    have X := Lib.hid (show Below w.heap.size w v15 from Mod.below BW.out hm BW.out.size (fun b hb => (O55.out.in b hb).1)); clear BW O55
    have BW := Lib.hid X.out; clear X
    have O55 := Lib.hid ho; clear ho hm
    clear HSZ
    go_wp2_with (first | ((with_reducible show wpList _ _ _ ({ dst := _, op := Op.load 23 _, type := _, pos := _, after := _, guard := _ } :: _) _ _); refine wpList_load_row _ ⟨w.heap.size, 0, none⟩ rfl cs1 agg_lId HL1.out (blk_cells B0.out) ?_) | ((with_reducible show wpList _ _ _ ({ dst := _, op := Op.load 23 _, type := _, pos := _, after := _, guard := _ } :: _) _ _); refine wpList_load_row_g _ (by first | rfl | kernel_rfl) ⟨w.heap.size, 0, none⟩ rfl cs1 agg_lId HL1.out (blk_cells B0.out) ?_) | ((with_reducible show wpList _ _ _ ({ dst := _, op := Op.load 49 _, type := _, pos := _, after := _, guard := _ } :: _) _ _); refine wpList_load_row _ ⟨pb, 0, none⟩ rfl cs'14 agg_Inst Lcs14.out (blk_cells XB23.out) ?_) | ((with_reducible show wpList _ _ _ ({ dst := _, op := Op.load 49 _, type := _, pos := _, after := _, guard := _ } :: _) _ _); refine wpList_load_row_g _ (by first | rfl | kernel_rfl) ⟨pb, 0, none⟩ rfl cs'14 agg_Inst Lcs14.out (blk_cells XB23.out) ?_) | ((with_reducible show wpList _ _ _ ({ dst := _, op := Op.load 49 _, type := _, pos := _, after := _, guard := _ } :: _) _ _); refine wpList_load_row _ ⟨(World.heap v8).size, 0, none⟩ rfl cs'54 agg_Inst Lcs54.out (blk_cells XB70.out) ?_) | ((with_reducible show wpList _ _ _ ({ dst := _, op := Op.load 49 _, type := _, pos := _, after := _, guard := _ } :: _) _ _); refine wpList_load_row_g _ (by first | rfl | kernel_rfl) ⟨(World.heap v8).size, 0, none⟩ rfl cs'54 agg_Inst Lcs54.out (blk_cells XB70.out) ?_) | fail)
    have HSZ := Lib.hid BW.out.size
    refine (heldInst_any r0 (1) _ cs'54 _ (by first | rfl | omega) (by omega) (by first | omega | (have := HCN.out; omega)) (by first | omega | (have := HWT.out; omega)) O55.out.repAny).mono ?_; rintro e v16 ⟨q101, rfl, hq, hb⟩
    have hq1 : q99 = q101 := (hq.trans HY100.out.symm).symm
    subst hq1
    clear hq
    have X := Lib.hid (B0.out.below hb); clear B0
    have B0 := Lib.hid X.out; clear X
    have X := Lib.hid (show Below w.heap.size w v16 from BW.out.trans (hb.mono BW.out.size)); clear BW
    have BW := Lib.hid X.out; clear X
    have X := Lib.hid (O3.out.below hb); clear O3
    have O3 := Lib.hid X.out; clear X
    have X := Lib.hid (O8.out.below hb); clear O8
    have O8 := Lib.hid X.out; clear X
    have X := Lib.hid (O15.out.below hb); clear O15
    have O15 := Lib.hid X.out; clear X
    have X := Lib.hid (O29.out.below hb); clear O29
    have O29 := Lib.hid X.out; clear X
    have X := Lib.hid (O41.out.below hb); clear O41
    have O41 := Lib.hid X.out; clear X
    have X := Lib.hid (O55.out.below hb); clear O55
    have O55 := Lib.hid X.out; clear X
    have X := Lib.hid (O79.out.below hb); clear O79
    have O79 := Lib.hid X.out; clear X
    have X := Lib.hid (XB23.out.below hb); clear XB23
    have XB23 := Lib.hid X.out; clear X
    have X := Lib.hid (XB70.out.below hb); clear XB70
    have XB70 := Lib.hid X.out; clear X
    clear hb
    clear HSZ
    go_wp2
    obtain ⟨J, hJ⟩ : ∃ J : Act → Act → World → Prop, J = fun a0 a' w' => ∃ (A'102 : Option Addr) (c'103 : Nat) (cs'124 cs'147 : List Value) (F149 : List Nat) (ph : Nat), a' = (Act.put (Act.put (Act.put (Act.put (Act.put (Act.put a0 (some 60) (.slice A0 n0 c0)) (some 62) (.agg cs1.toArray)) (some 61) (.slice A'102 n0 c'103)) (some 63) (.agg cs'124.toArray)) (some 64) (.agg cs'147.toArray)) (some 12) (.pointer (some ⟨ph, 0, none⟩))) ∧ cs'147.length = 16 ∧ Own w' w.heap.size r0.c cs'147 F149 ∧ Blk w' ph 49 cs'147.toArray ∧ Below (World.heap v16).size v16 w' := ⟨_, rfl⟩
    have HJ := Lib.hid hJ; clear hJ
    refine wp_join J ?_ ?_
    · refine wp_region_t 6 (.one 0 (.one 2 (.two 1 5 (.two 3 5 (.two 4 5 (.one 5 .leaf) (.one 4 .leaf)) (.one 3 (.one 4 .leaf))) (.one 1 (.one 3 (.one 4 .leaf)))))) (by kernel_rfl) (by kernel_rfl) ?_
      refine wpT_quiet rfl (by kernel_rfl) rfl ?_; go_wp2; refine ⟨rfl, ?_⟩
      refine wpT_quiet rfl (by kernel_rfl) rfl ?_; go_wp2_with (first | (refine wpList_load_row _ ⟨w.heap.size, 0, none⟩ rfl cs1 agg_lId HL1.out (blk_cells B0.out.drew) ?_) | fail); refine ⟨rfl, ?_⟩
      have X := Lib.hid BW.out.drew; clear BW; have BW := Lib.hid X.out; clear X
      have DW := Lib.hid (show Below (World.heap v16).size v16 v16.drew from (Below.refl _ _).drew)
      clear B0
      generalize v16.drew = u at BW DW ⊢
      refine wpT_two rfl rfl ?_ ?_
      · skip
        go_wp2_with fail
        have HSZ := Lib.hid BW.out.size
        refine (toInstS_any x0 A0 n0 c0 _ HN0.out (by omega) (RA0.out.below BW.out)).mono ?_; rintro e u13 ⟨A'102, c'103, rfl, ⟨F105, hnd, ho⟩, hb⟩
        clear hnd
        have HB := Lib.hid hb; clear hb
        have X := Lib.hid (show Below w.heap.size w u13 from BW.out.trans (HB.out.mono BW.out.size)); clear BW; have BW := Lib.hid X.out; clear X
        have X := Lib.hid (show Below (World.heap v16).size v16 u13 from DW.out.trans (HB.out.mono DW.out.size)); clear DW; have DW := Lib.hid X.out; clear X
        have O104 := Lib.hid (Own.mono ho (show w.heap.size ≤ _ from HSZ.out)); clear ho HSZ
        go_wp2
        refine ⟨Ext.of_below HB.out, ?_⟩
        clear HB
        refine wpT_two rfl rfl ?_ ?_
        · skip
          go_wp2_with fail
          have HSZ := Lib.hid BW.out.size
          refine (toId_any x1 cs1 _ (by exact Nat.zero_le _) (A1.out.below BW.out)).mono ?_; rintro e u14 ⟨cs'124, rfl, hM, hb⟩
          have Lcs124 := Lib.hid (show cs'124.length = 2 from hM.rep.length.trans (IdD.width _))
          obtain ⟨F126, hnd, ho⟩ := hM
          clear hnd
          have HB := Lib.hid hb; clear hb
          have X := Lib.hid (show Below w.heap.size w u14 from BW.out.trans (HB.out.mono BW.out.size)); clear BW; have BW := Lib.hid X.out; clear X
          have X := Lib.hid (show Below (World.heap v16).size v16 u14 from DW.out.trans (HB.out.mono DW.out.size)); clear DW; have DW := Lib.hid X.out; clear X
          have X := Lib.hid (O104.out.below HB.out); clear O104; have O104 := Lib.hid X.out; clear X
          have O125 := Lib.hid (Own.mono ho (show w.heap.size ≤ _ from HSZ.out)); clear ho HSZ
          go_wp2
          refine ⟨Ext.of_below HB.out, ?_⟩
          clear HB
          refine wpT_two rfl rfl ?_ ?_
          · skip
            go_wp2_with fail
            have HSZ := Lib.hid BW.out.size
            refine (Hi.out A'102 c'103 cs'124 _ O104.out.repAny O125.out.repAny).mono ?_; rintro e u15 ⟨cs'147, rfl, hM0, hb⟩
            have Lcs147 := Lib.hid (show cs'147.length = 16 from hM0.rep.length.trans (InstD.width _))
            obtain ⟨F149, hnd, ho⟩ := hM0
            clear hnd
            have HB := Lib.hid hb; clear hb
            have X := Lib.hid (show Below w.heap.size w u15 from BW.out.trans (HB.out.mono BW.out.size)); clear BW; have BW := Lib.hid X.out; clear X
            have X := Lib.hid (show Below (World.heap v16).size v16 u15 from DW.out.trans (HB.out.mono DW.out.size)); clear DW; have DW := Lib.hid X.out; clear X
            have X := Lib.hid (O104.out.below HB.out); clear O104; have O104 := Lib.hid X.out; clear X
            have X := Lib.hid (O125.out.below HB.out); clear O125; have O125 := Lib.hid X.out; clear X
            have O148 := Lib.hid (Own.mono ho (show w.heap.size ≤ _ from HSZ.out)); clear ho HSZ
            go_wp2
            refine ⟨Ext.of_below HB.out, ?_⟩
            clear HB
            refine wpT_actor rfl (by kernel_rfl) ?_
            go_wp2; refine ⟨Ext.alloc (Ext.refl _) _, ?_⟩
            have hb : Below (World.heap u15).size u15 (World.alloc u15 (.cells #[.int .i64 0, .int .i64 0, .int .i64 0, .int .i64 0, .int .i64 0, .int .i64 0, .int .i64 0, .int .i64 0, .string ⟨#[]⟩, .string ⟨#[]⟩, .string ⟨#[]⟩, .int .i64 0, .slice none 0 0, .int .i64 0, .slice none 0 0, .bool false] 49)) := Below.alloc (Below.refl _ _) (Nat.le_refl _) _
            have hx : Blk (World.alloc u15 (.cells #[.int .i64 0, .int .i64 0, .int .i64 0, .int .i64 0, .int .i64 0, .int .i64 0, .int .i64 0, .int .i64 0, .string ⟨#[]⟩, .string ⟨#[]⟩, .string ⟨#[]⟩, .int .i64 0, .slice none 0 0, .int .i64 0, .slice none 0 0, .bool false] 49)) (World.heap u15).size 49 #[.int .i64 0, .int .i64 0, .int .i64 0, .int .i64 0, .int .i64 0, .int .i64 0, .int .i64 0, .int .i64 0, .string ⟨#[]⟩, .string ⟨#[]⟩, .string ⟨#[]⟩, .int .i64 0, .slice none 0 0, .int .i64 0, .slice none 0 0, .bool false] := blk_new u15 _ _
            generalize World.alloc u15 (.cells #[.int .i64 0, .int .i64 0, .int .i64 0, .int .i64 0, .int .i64 0, .int .i64 0, .int .i64 0, .int .i64 0, .string ⟨#[]⟩, .string ⟨#[]⟩, .string ⟨#[]⟩, .int .i64 0, .slice none 0 0, .int .i64 0, .slice none 0 0, .bool false] 49) = u16 at hb hx ⊢
            obtain ⟨ph, hph⟩ : ∃ ph, ph = (World.heap u15).size := ⟨_, rfl⟩
            rw [← hph] at hx ⊢
            have XA := Lib.hid hx; clear hx
            have PH := Lib.hid (show w.heap.size ≤ ph ∧ (World.heap v16).size ≤ ph from ⟨by have h1 := BW.out.size; omega, by have h1 := DW.out.size; omega⟩)
            have DPH := Lib.hid (show ph ∉ F149 from fun he => by have h1 := (O148.out.in _ he).2; omega)
            clear hph
            have X := Lib.hid (show Below w.heap.size w u16 from BW.out.trans (hb.mono BW.out.size)); clear BW; have BW := Lib.hid X.out; clear X
            have X := Lib.hid (show Below (World.heap v16).size v16 u16 from DW.out.trans (hb.mono DW.out.size)); clear DW; have DW := Lib.hid X.out; clear X
            have X := Lib.hid (O104.out.below hb); clear O104; have O104 := Lib.hid X.out; clear X
            have X := Lib.hid (O125.out.below hb); clear O125; have O125 := Lib.hid X.out; clear X
            have X := Lib.hid (O148.out.below hb); clear O148; have O148 := Lib.hid X.out; clear X
            clear hb
            refine wpT_nil ?_
            try simp only [List.drop_succ_cons, List.drop_zero]
            refine wpList_store_row _ ph 49 0 cs'147 [] [.int .i64 0, .int .i64 0, .int .i64 0, .int .i64 0, .int .i64 0, .int .i64 0, .int .i64 0, .int .i64 0, .string ⟨#[]⟩, .string ⟨#[]⟩, .string ⟨#[]⟩, .int .i64 0, .slice none 0 0, .int .i64 0, .slice none 0 0, .bool false] [] _ rfl rfl (Lcs147.out ▸ agg_Inst) XA.out rfl rfl Lcs147.out.symm O148.out.one ?_; intro uu hsb hsg
            have hsb2 : Blk uu ph 49 cs'147.toArray := (by simpa using hsb)
            refine ⟨rfl, ?_⟩; rw [HJ.out]; refine ⟨A'102, c'103, cs'124, cs'147, F149, ph, ?_, Lcs147.out, O148.out.keep fun b hb => hsg.block b (O148.out.in b hb).2 (fun hk => by injection hk with hk; exact DPH.out (hk ▸ hb)), hsb2, Below.grown DW.out hsg DW.out.size (fun k hk => by injection hk with hk; have := PH.out; omega)⟩
            simp only [Act.put, List.setIfInBounds_toArray, List.set_cons_succ, List.set_cons_zero]
          · skip
            go_wp2; refine ⟨Ext.alloc (Ext.refl _) _, ?_⟩
            have hb : Below (World.heap u14).size u14 (World.alloc u14 (.cells #[.int .i64 0, .int .i64 0, .int .i64 0, .int .i64 0, .int .i64 0, .int .i64 0, .int .i64 0, .int .i64 0, .string ⟨#[]⟩, .string ⟨#[]⟩, .string ⟨#[]⟩, .int .i64 0, .slice none 0 0, .int .i64 0, .slice none 0 0, .bool false] 49)) := Below.alloc (Below.refl _ _) (Nat.le_refl _) _
            have hx : Blk (World.alloc u14 (.cells #[.int .i64 0, .int .i64 0, .int .i64 0, .int .i64 0, .int .i64 0, .int .i64 0, .int .i64 0, .int .i64 0, .string ⟨#[]⟩, .string ⟨#[]⟩, .string ⟨#[]⟩, .int .i64 0, .slice none 0 0, .int .i64 0, .slice none 0 0, .bool false] 49)) (World.heap u14).size 49 #[.int .i64 0, .int .i64 0, .int .i64 0, .int .i64 0, .int .i64 0, .int .i64 0, .int .i64 0, .int .i64 0, .string ⟨#[]⟩, .string ⟨#[]⟩, .string ⟨#[]⟩, .int .i64 0, .slice none 0 0, .int .i64 0, .slice none 0 0, .bool false] := blk_new u14 _ _
            generalize World.alloc u14 (.cells #[.int .i64 0, .int .i64 0, .int .i64 0, .int .i64 0, .int .i64 0, .int .i64 0, .int .i64 0, .int .i64 0, .string ⟨#[]⟩, .string ⟨#[]⟩, .string ⟨#[]⟩, .int .i64 0, .slice none 0 0, .int .i64 0, .slice none 0 0, .bool false] 49) = u17 at hb hx ⊢
            obtain ⟨ph, hph⟩ : ∃ ph, ph = (World.heap u14).size := ⟨_, rfl⟩
            rw [← hph] at hx ⊢
            have XA := Lib.hid hx; clear hx
            have PH := Lib.hid (show w.heap.size ≤ ph ∧ (World.heap v16).size ≤ ph from ⟨by have h1 := BW.out.size; omega, by have h1 := DW.out.size; omega⟩)
            clear hph
            have X := Lib.hid (show Below w.heap.size w u17 from BW.out.trans (hb.mono BW.out.size)); clear BW; have BW := Lib.hid X.out; clear X
            have X := Lib.hid (show Below (World.heap v16).size v16 u17 from DW.out.trans (hb.mono DW.out.size)); clear DW; have DW := Lib.hid X.out; clear X
            have X := Lib.hid (O104.out.below hb); clear O104; have O104 := Lib.hid X.out; clear X
            have X := Lib.hid (O125.out.below hb); clear O125; have O125 := Lib.hid X.out; clear X
            clear hb
            refine wpT_actor rfl (by kernel_rfl) ?_
            go_wp2_with fail
            have HSZ := Lib.hid BW.out.size
            refine (Hi.out A'102 c'103 cs'124 _ O104.out.repAny O125.out.repAny).mono ?_; rintro e u18 ⟨cs'147, rfl, hM0, hb⟩
            have Lcs147 := Lib.hid (show cs'147.length = 16 from hM0.rep.length.trans (InstD.width _))
            obtain ⟨F149, hnd, ho⟩ := hM0
            have DPH := Lib.hid (show ph ∉ F149 from fun he => by have h1 := XA.out.lt; have h2 := (ho.in _ he).1; omega)
            clear hnd
            have HB := Lib.hid hb; clear hb
            have X := Lib.hid (show Below w.heap.size w u18 from BW.out.trans (HB.out.mono BW.out.size)); clear BW; have BW := Lib.hid X.out; clear X
            have X := Lib.hid (show Below (World.heap v16).size v16 u18 from DW.out.trans (HB.out.mono DW.out.size)); clear DW; have DW := Lib.hid X.out; clear X
            have X := Lib.hid (O104.out.below HB.out); clear O104; have O104 := Lib.hid X.out; clear X
            have X := Lib.hid (O125.out.below HB.out); clear O125; have O125 := Lib.hid X.out; clear X
            have X := Lib.hid (XA.out.below HB.out); clear XA; have XA := Lib.hid X.out; clear X
            have O148 := Lib.hid (Own.mono ho (show w.heap.size ≤ _ from HSZ.out)); clear ho HSZ
            go_wp2
            refine ⟨Ext.of_below HB.out, ?_⟩
            clear HB
            refine wpT_nil ?_
            try simp only [List.drop_succ_cons, List.drop_zero]
            refine wpList_store_row _ ph 49 0 cs'147 [] [.int .i64 0, .int .i64 0, .int .i64 0, .int .i64 0, .int .i64 0, .int .i64 0, .int .i64 0, .int .i64 0, .string ⟨#[]⟩, .string ⟨#[]⟩, .string ⟨#[]⟩, .int .i64 0, .slice none 0 0, .int .i64 0, .slice none 0 0, .bool false] [] _ rfl rfl (Lcs147.out ▸ agg_Inst) XA.out rfl rfl Lcs147.out.symm O148.out.one ?_; intro uu hsb hsg
            have hsb2 : Blk uu ph 49 cs'147.toArray := (by simpa using hsb)
            refine ⟨rfl, ?_⟩; rw [HJ.out]; refine ⟨A'102, c'103, cs'124, cs'147, F149, ph, ?_, Lcs147.out, O148.out.keep fun b hb => hsg.block b (O148.out.in b hb).2 (fun hk => by injection hk with hk; exact DPH.out (hk ▸ hb)), hsb2, Below.grown DW.out hsg DW.out.size (fun k hk => by injection hk with hk; have := PH.out; omega)⟩
            simp only [Act.put, List.setIfInBounds_toArray, List.set_cons_succ, List.set_cons_zero]
        · skip
          go_wp2; refine ⟨Ext.alloc (Ext.refl _) _, ?_⟩
          have hb : Below (World.heap u13).size u13 (World.alloc u13 (.cells #[.int .i64 0, .int .i64 0, .int .i64 0, .int .i64 0, .int .i64 0, .int .i64 0, .int .i64 0, .int .i64 0, .string ⟨#[]⟩, .string ⟨#[]⟩, .string ⟨#[]⟩, .int .i64 0, .slice none 0 0, .int .i64 0, .slice none 0 0, .bool false] 49)) := Below.alloc (Below.refl _ _) (Nat.le_refl _) _
          have hx : Blk (World.alloc u13 (.cells #[.int .i64 0, .int .i64 0, .int .i64 0, .int .i64 0, .int .i64 0, .int .i64 0, .int .i64 0, .int .i64 0, .string ⟨#[]⟩, .string ⟨#[]⟩, .string ⟨#[]⟩, .int .i64 0, .slice none 0 0, .int .i64 0, .slice none 0 0, .bool false] 49)) (World.heap u13).size 49 #[.int .i64 0, .int .i64 0, .int .i64 0, .int .i64 0, .int .i64 0, .int .i64 0, .int .i64 0, .int .i64 0, .string ⟨#[]⟩, .string ⟨#[]⟩, .string ⟨#[]⟩, .int .i64 0, .slice none 0 0, .int .i64 0, .slice none 0 0, .bool false] := blk_new u13 _ _
          generalize World.alloc u13 (.cells #[.int .i64 0, .int .i64 0, .int .i64 0, .int .i64 0, .int .i64 0, .int .i64 0, .int .i64 0, .int .i64 0, .string ⟨#[]⟩, .string ⟨#[]⟩, .string ⟨#[]⟩, .int .i64 0, .slice none 0 0, .int .i64 0, .slice none 0 0, .bool false] 49) = u19 at hb hx ⊢
          obtain ⟨ph, hph⟩ : ∃ ph, ph = (World.heap u13).size := ⟨_, rfl⟩
          rw [← hph] at hx ⊢
          have XA := Lib.hid hx; clear hx
          have PH := Lib.hid (show w.heap.size ≤ ph ∧ (World.heap v16).size ≤ ph from ⟨by have h1 := BW.out.size; omega, by have h1 := DW.out.size; omega⟩)
          clear hph
          have X := Lib.hid (show Below w.heap.size w u19 from BW.out.trans (hb.mono BW.out.size)); clear BW; have BW := Lib.hid X.out; clear X
          have X := Lib.hid (show Below (World.heap v16).size v16 u19 from DW.out.trans (hb.mono DW.out.size)); clear DW; have DW := Lib.hid X.out; clear X
          have X := Lib.hid (O104.out.below hb); clear O104; have O104 := Lib.hid X.out; clear X
          clear hb
          refine wpT_actor rfl (by kernel_rfl) ?_
          go_wp2_with fail
          have HSZ := Lib.hid BW.out.size
          refine (toId_any x1 cs1 _ (by exact Nat.zero_le _) (A1.out.below BW.out)).mono ?_; rintro e u20 ⟨cs'124, rfl, hM, hb⟩
          have Lcs124 := Lib.hid (show cs'124.length = 2 from hM.rep.length.trans (IdD.width _))
          obtain ⟨F126, hnd, ho⟩ := hM
          clear hnd
          have HB := Lib.hid hb; clear hb
          have X := Lib.hid (show Below w.heap.size w u20 from BW.out.trans (HB.out.mono BW.out.size)); clear BW; have BW := Lib.hid X.out; clear X
          have X := Lib.hid (show Below (World.heap v16).size v16 u20 from DW.out.trans (HB.out.mono DW.out.size)); clear DW; have DW := Lib.hid X.out; clear X
          have X := Lib.hid (O104.out.below HB.out); clear O104; have O104 := Lib.hid X.out; clear X
          have X := Lib.hid (XA.out.below HB.out); clear XA; have XA := Lib.hid X.out; clear X
          have O125 := Lib.hid (Own.mono ho (show w.heap.size ≤ _ from HSZ.out)); clear ho HSZ
          go_wp2
          refine ⟨Ext.of_below HB.out, ?_⟩
          clear HB
          refine wpT_actor rfl (by kernel_rfl) ?_
          go_wp2_with fail
          have HSZ := Lib.hid BW.out.size
          refine (Hi.out A'102 c'103 cs'124 _ O104.out.repAny O125.out.repAny).mono ?_; rintro e u21 ⟨cs'147, rfl, hM0, hb⟩
          have Lcs147 := Lib.hid (show cs'147.length = 16 from hM0.rep.length.trans (InstD.width _))
          obtain ⟨F149, hnd, ho⟩ := hM0
          have DPH := Lib.hid (show ph ∉ F149 from fun he => by have h1 := XA.out.lt; have h2 := (ho.in _ he).1; omega)
          clear hnd
          have HB := Lib.hid hb; clear hb
          have X := Lib.hid (show Below w.heap.size w u21 from BW.out.trans (HB.out.mono BW.out.size)); clear BW; have BW := Lib.hid X.out; clear X
          have X := Lib.hid (show Below (World.heap v16).size v16 u21 from DW.out.trans (HB.out.mono DW.out.size)); clear DW; have DW := Lib.hid X.out; clear X
          have X := Lib.hid (O104.out.below HB.out); clear O104; have O104 := Lib.hid X.out; clear X
          have X := Lib.hid (O125.out.below HB.out); clear O125; have O125 := Lib.hid X.out; clear X
          have X := Lib.hid (XA.out.below HB.out); clear XA; have XA := Lib.hid X.out; clear X
          have O148 := Lib.hid (Own.mono ho (show w.heap.size ≤ _ from HSZ.out)); clear ho HSZ
          go_wp2
          refine ⟨Ext.of_below HB.out, ?_⟩
          clear HB
          refine wpT_nil ?_
          try simp only [List.drop_succ_cons, List.drop_zero]
          refine wpList_store_row _ ph 49 0 cs'147 [] [.int .i64 0, .int .i64 0, .int .i64 0, .int .i64 0, .int .i64 0, .int .i64 0, .int .i64 0, .int .i64 0, .string ⟨#[]⟩, .string ⟨#[]⟩, .string ⟨#[]⟩, .int .i64 0, .slice none 0 0, .int .i64 0, .slice none 0 0, .bool false] [] _ rfl rfl (Lcs147.out ▸ agg_Inst) XA.out rfl rfl Lcs147.out.symm O148.out.one ?_; intro uu hsb hsg
          have hsb2 : Blk uu ph 49 cs'147.toArray := (by simpa using hsb)
          refine ⟨rfl, ?_⟩; rw [HJ.out]; refine ⟨A'102, c'103, cs'124, cs'147, F149, ph, ?_, Lcs147.out, O148.out.keep fun b hb => hsg.block b (O148.out.in b hb).2 (fun hk => by injection hk with hk; exact DPH.out (hk ▸ hb)), hsb2, Below.grown DW.out hsg DW.out.size (fun k hk => by injection hk with hk; have := PH.out; omega)⟩
          simp only [Act.put, List.setIfInBounds_toArray, List.set_cons_succ, List.set_cons_zero]
      · skip
        go_wp2; refine ⟨Ext.alloc (Ext.refl _) _, ?_⟩
        have hb : Below (World.heap u).size u (World.alloc u (.cells #[.int .i64 0, .int .i64 0, .int .i64 0, .int .i64 0, .int .i64 0, .int .i64 0, .int .i64 0, .int .i64 0, .string ⟨#[]⟩, .string ⟨#[]⟩, .string ⟨#[]⟩, .int .i64 0, .slice none 0 0, .int .i64 0, .slice none 0 0, .bool false] 49)) := Below.alloc (Below.refl _ _) (Nat.le_refl _) _
        have hx : Blk (World.alloc u (.cells #[.int .i64 0, .int .i64 0, .int .i64 0, .int .i64 0, .int .i64 0, .int .i64 0, .int .i64 0, .int .i64 0, .string ⟨#[]⟩, .string ⟨#[]⟩, .string ⟨#[]⟩, .int .i64 0, .slice none 0 0, .int .i64 0, .slice none 0 0, .bool false] 49)) (World.heap u).size 49 #[.int .i64 0, .int .i64 0, .int .i64 0, .int .i64 0, .int .i64 0, .int .i64 0, .int .i64 0, .int .i64 0, .string ⟨#[]⟩, .string ⟨#[]⟩, .string ⟨#[]⟩, .int .i64 0, .slice none 0 0, .int .i64 0, .slice none 0 0, .bool false] := blk_new u _ _
        generalize World.alloc u (.cells #[.int .i64 0, .int .i64 0, .int .i64 0, .int .i64 0, .int .i64 0, .int .i64 0, .int .i64 0, .int .i64 0, .string ⟨#[]⟩, .string ⟨#[]⟩, .string ⟨#[]⟩, .int .i64 0, .slice none 0 0, .int .i64 0, .slice none 0 0, .bool false] 49) = u22 at hb hx ⊢
        obtain ⟨ph, hph⟩ : ∃ ph, ph = (World.heap u).size := ⟨_, rfl⟩
        rw [← hph] at hx ⊢
        have XA := Lib.hid hx; clear hx
        have PH := Lib.hid (show w.heap.size ≤ ph ∧ (World.heap v16).size ≤ ph from ⟨by have h1 := BW.out.size; omega, by have h1 := DW.out.size; omega⟩)
        clear hph
        have X := Lib.hid (show Below w.heap.size w u22 from BW.out.trans (hb.mono BW.out.size)); clear BW; have BW := Lib.hid X.out; clear X
        have X := Lib.hid (show Below (World.heap v16).size v16 u22 from DW.out.trans (hb.mono DW.out.size)); clear DW; have DW := Lib.hid X.out; clear X
        clear hb
        refine wpT_actor rfl (by kernel_rfl) ?_
        go_wp2_with fail
        have HSZ := Lib.hid BW.out.size
        refine (toInstS_any x0 A0 n0 c0 _ HN0.out (by omega) (RA0.out.below BW.out)).mono ?_; rintro e u23 ⟨A'102, c'103, rfl, ⟨F105, hnd, ho⟩, hb⟩
        clear hnd
        have HB := Lib.hid hb; clear hb
        have X := Lib.hid (show Below w.heap.size w u23 from BW.out.trans (HB.out.mono BW.out.size)); clear BW; have BW := Lib.hid X.out; clear X
        have X := Lib.hid (show Below (World.heap v16).size v16 u23 from DW.out.trans (HB.out.mono DW.out.size)); clear DW; have DW := Lib.hid X.out; clear X
        have X := Lib.hid (XA.out.below HB.out); clear XA; have XA := Lib.hid X.out; clear X
        have O104 := Lib.hid (Own.mono ho (show w.heap.size ≤ _ from HSZ.out)); clear ho HSZ
        go_wp2
        refine ⟨Ext.of_below HB.out, ?_⟩
        clear HB
        refine wpT_actor rfl (by kernel_rfl) ?_
        go_wp2_with fail
        have HSZ := Lib.hid BW.out.size
        refine (toId_any x1 cs1 _ (by exact Nat.zero_le _) (A1.out.below BW.out)).mono ?_; rintro e u24 ⟨cs'124, rfl, hM, hb⟩
        have Lcs124 := Lib.hid (show cs'124.length = 2 from hM.rep.length.trans (IdD.width _))
        obtain ⟨F126, hnd, ho⟩ := hM
        clear hnd
        have HB := Lib.hid hb; clear hb
        have X := Lib.hid (show Below w.heap.size w u24 from BW.out.trans (HB.out.mono BW.out.size)); clear BW; have BW := Lib.hid X.out; clear X
        have X := Lib.hid (show Below (World.heap v16).size v16 u24 from DW.out.trans (HB.out.mono DW.out.size)); clear DW; have DW := Lib.hid X.out; clear X
        have X := Lib.hid (O104.out.below HB.out); clear O104; have O104 := Lib.hid X.out; clear X
        have X := Lib.hid (XA.out.below HB.out); clear XA; have XA := Lib.hid X.out; clear X
        have O125 := Lib.hid (Own.mono ho (show w.heap.size ≤ _ from HSZ.out)); clear ho HSZ
        go_wp2
        refine ⟨Ext.of_below HB.out, ?_⟩
        clear HB
        refine wpT_actor rfl (by kernel_rfl) ?_
        go_wp2_with fail
        have HSZ := Lib.hid BW.out.size
        refine (Hi.out A'102 c'103 cs'124 _ O104.out.repAny O125.out.repAny).mono ?_; rintro e u25 ⟨cs'147, rfl, hM0, hb⟩
        have Lcs147 := Lib.hid (show cs'147.length = 16 from hM0.rep.length.trans (InstD.width _))
        obtain ⟨F149, hnd, ho⟩ := hM0
        have DPH := Lib.hid (show ph ∉ F149 from fun he => by have h1 := XA.out.lt; have h2 := (ho.in _ he).1; omega)
        clear hnd
        have HB := Lib.hid hb; clear hb
        have X := Lib.hid (show Below w.heap.size w u25 from BW.out.trans (HB.out.mono BW.out.size)); clear BW; have BW := Lib.hid X.out; clear X
        have X := Lib.hid (show Below (World.heap v16).size v16 u25 from DW.out.trans (HB.out.mono DW.out.size)); clear DW; have DW := Lib.hid X.out; clear X
        have X := Lib.hid (O104.out.below HB.out); clear O104; have O104 := Lib.hid X.out; clear X
        have X := Lib.hid (O125.out.below HB.out); clear O125; have O125 := Lib.hid X.out; clear X
        have X := Lib.hid (XA.out.below HB.out); clear XA; have XA := Lib.hid X.out; clear X
        have O148 := Lib.hid (Own.mono ho (show w.heap.size ≤ _ from HSZ.out)); clear ho HSZ
        go_wp2
        refine ⟨Ext.of_below HB.out, ?_⟩
        clear HB
        refine wpT_nil ?_
        try simp only [List.drop_succ_cons, List.drop_zero]
        refine wpList_store_row _ ph 49 0 cs'147 [] [.int .i64 0, .int .i64 0, .int .i64 0, .int .i64 0, .int .i64 0, .int .i64 0, .int .i64 0, .int .i64 0, .string ⟨#[]⟩, .string ⟨#[]⟩, .string ⟨#[]⟩, .int .i64 0, .slice none 0 0, .int .i64 0, .slice none 0 0, .bool false] [] _ rfl rfl (Lcs147.out ▸ agg_Inst) XA.out rfl rfl Lcs147.out.symm O148.out.one ?_; intro uu hsb hsg
        have hsb2 : Blk uu ph 49 cs'147.toArray := (by simpa using hsb)
        refine ⟨rfl, ?_⟩; rw [HJ.out]; refine ⟨A'102, c'103, cs'124, cs'147, F149, ph, ?_, Lcs147.out, O148.out.keep fun b hb => hsg.block b (O148.out.in b hb).2 (fun hk => by injection hk with hk; exact DPH.out (hk ▸ hb)), hsb2, Below.grown DW.out hsg DW.out.size (fun k hk => by injection hk with hk; have := PH.out; omega)⟩
        simp only [Act.put, List.setIfInBounds_toArray, List.set_cons_succ, List.set_cons_zero]
    intro a' v20 hj; rw [HJ.out] at hj; clear HJ J; obtain ⟨A'102, c'103, cs'124, cs'147, F149, ph, rfl, hL, hO, hX, hb⟩ := hj
    simp only [Act.put, List.setIfInBounds_toArray, List.set_cons_succ, List.set_cons_zero]
    have Lcs147 := Lib.hid hL; clear hL; have O148 := Lib.hid hO; clear hO; have XB172 := Lib.hid hX; clear hX
    have X := Lib.hid (show Below w.heap.size w v20 from BW.out.trans (hb.mono BW.out.size)); clear BW; have BW := Lib.hid X.out; clear X
    have X := Lib.hid (B0.out.below hb); clear B0; have B0 := Lib.hid X.out; clear X
    have X := Lib.hid (O3.out.below hb); clear O3; have O3 := Lib.hid X.out; clear X
    have X := Lib.hid (O8.out.below hb); clear O8; have O8 := Lib.hid X.out; clear X
    have X := Lib.hid (O15.out.below hb); clear O15; have O15 := Lib.hid X.out; clear X
    have X := Lib.hid (O29.out.below hb); clear O29; have O29 := Lib.hid X.out; clear X
    have X := Lib.hid (O41.out.below hb); clear O41; have O41 := Lib.hid X.out; clear X
    have X := Lib.hid (O55.out.below hb); clear O55; have O55 := Lib.hid X.out; clear X
    have X := Lib.hid (O79.out.below hb); clear O79; have O79 := Lib.hid X.out; clear X
    have X := Lib.hid (XB23.out.below hb); clear XB23; have XB23 := Lib.hid X.out; clear X
    have X := Lib.hid (XB70.out.below hb); clear XB70; have XB70 := Lib.hid X.out; clear X
    clear hb
    go_wp2_with (first | ((with_reducible show wpList _ _ _ ({ dst := _, op := Op.load 23 _, type := _, pos := _, after := _, guard := _ } :: _) _ _); refine wpList_load_row _ ⟨w.heap.size, 0, none⟩ rfl cs1 agg_lId HL1.out (blk_cells B0.out) ?_) | ((with_reducible show wpList _ _ _ ({ dst := _, op := Op.load 23 _, type := _, pos := _, after := _, guard := _ } :: _) _ _); refine wpList_load_row_g _ (by first | rfl | kernel_rfl) ⟨w.heap.size, 0, none⟩ rfl cs1 agg_lId HL1.out (blk_cells B0.out) ?_) | ((with_reducible show wpList _ _ _ ({ dst := _, op := Op.load 49 _, type := _, pos := _, after := _, guard := _ } :: _) _ _); refine wpList_load_row _ ⟨pb, 0, none⟩ rfl cs'14 agg_Inst Lcs14.out (blk_cells XB23.out) ?_) | ((with_reducible show wpList _ _ _ ({ dst := _, op := Op.load 49 _, type := _, pos := _, after := _, guard := _ } :: _) _ _); refine wpList_load_row_g _ (by first | rfl | kernel_rfl) ⟨pb, 0, none⟩ rfl cs'14 agg_Inst Lcs14.out (blk_cells XB23.out) ?_) | ((with_reducible show wpList _ _ _ ({ dst := _, op := Op.load 49 _, type := _, pos := _, after := _, guard := _ } :: _) _ _); refine wpList_load_row _ ⟨(World.heap v8).size, 0, none⟩ rfl cs'54 agg_Inst Lcs54.out (blk_cells XB70.out) ?_) | ((with_reducible show wpList _ _ _ ({ dst := _, op := Op.load 49 _, type := _, pos := _, after := _, guard := _ } :: _) _ _); refine wpList_load_row_g _ (by first | rfl | kernel_rfl) ⟨(World.heap v8).size, 0, none⟩ rfl cs'54 agg_Inst Lcs54.out (blk_cells XB70.out) ?_) | ((with_reducible show wpList _ _ _ ({ dst := _, op := Op.load 49 _, type := _, pos := _, after := _, guard := _ } :: _) _ _); refine wpList_load_row _ ⟨ph, 0, none⟩ rfl cs'147 agg_Inst Lcs147.out (blk_cells XB172.out) ?_) | ((with_reducible show wpList _ _ _ ({ dst := _, op := Op.load 49 _, type := _, pos := _, after := _, guard := _ } :: _) _ _); refine wpList_load_row_g _ (by first | rfl | kernel_rfl) ⟨ph, 0, none⟩ rfl cs'147 agg_Inst Lcs147.out (blk_cells XB172.out) ?_) | fail)
    have HSZ := Lib.hid BW.out.size
    refine (eqInst_any r0 cs'147 cs'14 _ (by first | omega | (have := HWT.out; omega)) O148.out.repAny O15.out.repAny).mono ?_; rintro e v21 ⟨rfl, hb⟩
    have X := Lib.hid (B0.out.below hb); clear B0
    have B0 := Lib.hid X.out; clear X
    have X := Lib.hid (show Below w.heap.size w v21 from BW.out.trans (hb.mono BW.out.size)); clear BW
    have BW := Lib.hid X.out; clear X
    have X := Lib.hid (O3.out.below hb); clear O3
    have O3 := Lib.hid X.out; clear X
    have X := Lib.hid (O8.out.below hb); clear O8
    have O8 := Lib.hid X.out; clear X
    have X := Lib.hid (O15.out.below hb); clear O15
    have O15 := Lib.hid X.out; clear X
    have X := Lib.hid (O29.out.below hb); clear O29
    have O29 := Lib.hid X.out; clear X
    have X := Lib.hid (O41.out.below hb); clear O41
    have O41 := Lib.hid X.out; clear X
    have X := Lib.hid (O55.out.below hb); clear O55
    have O55 := Lib.hid X.out; clear X
    have X := Lib.hid (O79.out.below hb); clear O79
    have O79 := Lib.hid X.out; clear X
    have X := Lib.hid (O148.out.below hb); clear O148
    have O148 := Lib.hid X.out; clear X
    have X := Lib.hid (XB23.out.below hb); clear XB23
    have XB23 := Lib.hid X.out; clear X
    have X := Lib.hid (XB70.out.below hb); clear XB70
    have XB70 := Lib.hid X.out; clear X
    have X := Lib.hid (XB172.out.below hb); clear XB172
    have XB172 := Lib.hid X.out; clear X
    clear hb
    clear HSZ
    go_wp2_with (first | ((with_reducible show wpList _ _ _ ({ dst := _, op := Op.load 23 _, type := _, pos := _, after := _, guard := _ } :: _) _ _); refine wpList_load_row _ ⟨w.heap.size, 0, none⟩ rfl cs1 agg_lId HL1.out (blk_cells B0.out) ?_) | ((with_reducible show wpList _ _ _ ({ dst := _, op := Op.load 23 _, type := _, pos := _, after := _, guard := _ } :: _) _ _); refine wpList_load_row_g _ (by first | rfl | kernel_rfl) ⟨w.heap.size, 0, none⟩ rfl cs1 agg_lId HL1.out (blk_cells B0.out) ?_) | ((with_reducible show wpList _ _ _ ({ dst := _, op := Op.load 49 _, type := _, pos := _, after := _, guard := _ } :: _) _ _); refine wpList_load_row _ ⟨pb, 0, none⟩ rfl cs'14 agg_Inst Lcs14.out (blk_cells XB23.out) ?_) | ((with_reducible show wpList _ _ _ ({ dst := _, op := Op.load 49 _, type := _, pos := _, after := _, guard := _ } :: _) _ _); refine wpList_load_row_g _ (by first | rfl | kernel_rfl) ⟨pb, 0, none⟩ rfl cs'14 agg_Inst Lcs14.out (blk_cells XB23.out) ?_) | ((with_reducible show wpList _ _ _ ({ dst := _, op := Op.load 49 _, type := _, pos := _, after := _, guard := _ } :: _) _ _); refine wpList_load_row _ ⟨(World.heap v8).size, 0, none⟩ rfl cs'54 agg_Inst Lcs54.out (blk_cells XB70.out) ?_) | ((with_reducible show wpList _ _ _ ({ dst := _, op := Op.load 49 _, type := _, pos := _, after := _, guard := _ } :: _) _ _); refine wpList_load_row_g _ (by first | rfl | kernel_rfl) ⟨(World.heap v8).size, 0, none⟩ rfl cs'54 agg_Inst Lcs54.out (blk_cells XB70.out) ?_) | ((with_reducible show wpList _ _ _ ({ dst := _, op := Op.load 49 _, type := _, pos := _, after := _, guard := _ } :: _) _ _); refine wpList_load_row _ ⟨ph, 0, none⟩ rfl cs'147 agg_Inst Lcs147.out (blk_cells XB172.out) ?_) | ((with_reducible show wpList _ _ _ ({ dst := _, op := Op.load 49 _, type := _, pos := _, after := _, guard := _ } :: _) _ _); refine wpList_load_row_g _ (by first | rfl | kernel_rfl) ⟨ph, 0, none⟩ rfl cs'147 agg_Inst Lcs147.out (blk_cells XB172.out) ?_) | fail)
    have HSZ := Lib.hid BW.out.size
    refine (heldInst_any r0 (1) _ cs'54 _ (by first | rfl | omega) (by omega) (by first | omega | (have := HCN.out; omega)) (by first | omega | (have := HWT.out; omega)) O55.out.repAny).mono ?_; rintro e v22 ⟨q183, rfl, hq, hb⟩
    have hq1 : q99 = q183 := (hq.trans HY100.out.symm).symm
    subst hq1
    clear hq
    have X := Lib.hid (B0.out.below hb); clear B0
    have B0 := Lib.hid X.out; clear X
    have X := Lib.hid (show Below w.heap.size w v22 from BW.out.trans (hb.mono BW.out.size)); clear BW
    have BW := Lib.hid X.out; clear X
    have X := Lib.hid (O3.out.below hb); clear O3
    have O3 := Lib.hid X.out; clear X
    have X := Lib.hid (O8.out.below hb); clear O8
    have O8 := Lib.hid X.out; clear X
    have X := Lib.hid (O15.out.below hb); clear O15
    have O15 := Lib.hid X.out; clear X
    have X := Lib.hid (O29.out.below hb); clear O29
    have O29 := Lib.hid X.out; clear X
    have X := Lib.hid (O41.out.below hb); clear O41
    have O41 := Lib.hid X.out; clear X
    have X := Lib.hid (O55.out.below hb); clear O55
    have O55 := Lib.hid X.out; clear X
    have X := Lib.hid (O79.out.below hb); clear O79
    have O79 := Lib.hid X.out; clear X
    have X := Lib.hid (O148.out.below hb); clear O148
    have O148 := Lib.hid X.out; clear X
    have X := Lib.hid (XB23.out.below hb); clear XB23
    have XB23 := Lib.hid X.out; clear X
    have X := Lib.hid (XB70.out.below hb); clear XB70
    have XB70 := Lib.hid X.out; clear X
    have X := Lib.hid (XB172.out.below hb); clear XB172
    have XB172 := Lib.hid X.out; clear X
    clear hb
    clear HSZ
    go_wp2
    go_ret
    exact ⟨ret_eq (by first | rfl | simp), BW.out⟩
  · skip
    go_enter Try.func7, Try.ntmps7
    go_wp2_with (first | ((with_reducible show wpList _ _ _ ({ dst := _, op := Op.load 23 _, type := _, pos := _, after := _, guard := _ } :: _) _ _); refine wpList_load_row _ ⟨w.heap.size, 0, none⟩ rfl cs1 agg_lId HL1.out (blk_cells (blk_new _ _ _)) ?_) | ((with_reducible show wpList _ _ _ ({ dst := _, op := Op.load 23 _, type := _, pos := _, after := _, guard := _ } :: _) _ _); refine wpList_load_row_g _ (by first | rfl | kernel_rfl) ⟨w.heap.size, 0, none⟩ rfl cs1 agg_lId HL1.out (blk_cells (blk_new _ _ _)) ?_) | fail)
    refine (szInstS_no x0 _ A0 n0 c0 _ HN0.out (by omega) (by omega) hm0 OK0.out (RA0.out.below (by repeat' (first | with_reducible exact Below.refl _ _ | with_reducible refine Below.alloc ?_ ?_ _ | (simp; done) | (simp; omega) | omega))) (by omega)).mono ?_; rintro e v1 ⟨rfl, hb⟩
    have B0 := Lib.hid (Blk.below (blk_new _ _ _) hb)
    have BW := Lib.hid (show Below w.heap.size w v1 from Below.trans (by repeat' (first | with_reducible exact Below.refl _ _ | with_reducible refine Below.alloc ?_ ?_ _ | (simp; done) | (simp; omega) | omega)) (hb.mono (by first | (simp; done) | (simp; omega) | omega)))
    clear hb
    go_wp2
    go_ret
    exact ⟨ret_eq (by first | rfl | simp), BW.out⟩
set_option maxRecDepth 100000 in
theorem FnExactInstAt_lifted (os : Os) (started : os.Started) (H : Type) (enc : TypeId × Value → H) :
    ReturnsInHanded {} Try.checked os 7 .any (Rows.fnExactInstAtSpec.pre6 enc Try.prog Try.f7 Rows.fnExactInstAtRow.domain false) (Rows.fnExactInstAtSpec.post enc Try.prog Try.f7 false true false false) := by
  refine returnsInHanded_of_change (C := Try.checked) own started (by kernel_rfl) Try.func7
    (ChangeSpec.witness6 (enc := enc) (C := Try.checked) false ⟨#[], #[.slice none 0 0, .agg #[.int .i64 0, .int .i64 0]], []⟩ 8 (by kernel_rfl) (by kernel_rfl) (by kernel_rfl) (by kernel_rfl)) ?_
  intro W base args ds gs before hval0 hW _ _
  have hval : ∀ (j : Nat) t v, Try.f7.params[j]? = some t → args[j]? = some v → Value.okWide Try.prog W .any base t v := hval0
  have hW' := hW
  obtain ⟨p, q, hA0, hV, rfl, hfz, hnd⟩ := hW
  have hA : DataW.TrodAll enc Try.prog W 0 (fun _ => true) true Try.f7.params.toList args.toList ds p := hA0
  rw [Try.params7] at hA hval
  obtain ⟨v0, vs0, d0, ds0, p0, q0, hargs, rfl, rfl, h0, r0⟩ := trodAll_cons hA
  obtain ⟨v1, vs1, d1, ds1, p1, q1, rfl, rfl, rfl, h1, r1⟩ := trodAll_cons r0
  obtain ⟨rfl, rfl, rfl⟩ := trodAll_nil r1
  obtain rfl : args = #[v0, v1] := Array.ext' hargs
  obtain ⟨x0, A0, n0, c0, rfl, hn0, hm0, ok0, rp0⟩ := openV_InstS (hval 0 46 v0 rfl rfl) h0
  obtain ⟨x1, cs1, rfl, ok1, rp1⟩ := openV_Id (hval 1 23 v1 rfl rfl) h1
  refine (lInstAt_all x0 A0 n0 c0 x1 cs1 W hn0 hm0 ok0 rp0 ok1 rp1).mono fun e W' ⟨he, hb⟩ => ?_
  subst he
  refine ⟨_, rfl, law_post (tb := 4) laidOut (by kernel_rfl) rfl Try.underlying4 rfl ?_ hW' hb⟩
  intro ds hl
  rw [Try.params7] at hl
  match ds, hl with
  | [_, _], _ => rfl
theorem FnExactInstAt_holds : Rows.FnExactInstAtSaid :=
  OpenClaim.holds_of_wide 7 Try.f7 rfl rfl rfl rfl rfl rfl rfl ⟨rfl, rfl, rfl, rfl, rfl⟩ rfl rfl rfl rfl rfl (by kernel_rfl) Try.func7 (by kernel_rfl)
    (of_decide_eq_true (by kernel_rfl)) (by unfold Func.isWrapper; first | (rw [if_pos (by decide +kernel)]; kernel_rfl) | (rw [if_neg (by decide +kernel)]; exact ⟨rfl, rfl⟩))
    (fun os started H enc _ => FnExactInstAt_lifted os started H enc)
end Go.Proofs.Ytbdblfpepnoafaa
