/-
  Sha and Short in the program as the plain function shaL. Conditions: a string of at most 2^40 bytes; the table of constants lies at its place.
-/
import Derived.Test.YtmhbfeglnhangaaDoorSha2
import Derived.Test.YtmhbfeglnhangaaDoorRegF
import Derived.Test.YtmhbfeglnhangaaDoorNumC
namespace Go.Proofs.YtmhbfeglnhangaaDoor
open Go.RowKit

theorem KK.pos {w : World} (hK : KK w) : 0 < w.heap.size := by
  have h0 := hK 0 (by omega)
  by_cases hs : 0 < w.heap.size
  · exact hs
  · have hn : w.heap[(0 : Nat)]? = none := Array.getElem?_eq_none (by omega)
    simp [World.cell?, hn] at h0
theorem run_isAgg_u32 (w : World) : (isAgg 44).run Tryd.prog w = .ok false w := by
  unfold Go.isAgg
  simp [Sem.run_bind, run_underlying Tryd.underlying44, Result.andThen]
theorem run_sizeOf_u32 (w : World) : (sizeOf 44).run Tryd.prog w = .ok 1 w := by
  have h0 : (Tryd.prog.info? 44).map (fun i => i.size) = some 1 := by kernel_rfl
  obtain ⟨i, hi, hz⟩ := Option.map_eq_some_iff.1 h0
  unfold sizeOf typeInfo Go.program
  simp only [Sem.run_bind, Sem.run, Result.andThen, hi, hz, Sem.run_pure]
theorem idx8 (cs : List Value) (j : Nat) (v : Value) (hj : j < 8) (h : cs[j]? = some v) (w : World) : (Instr.index 45 (.agg cs.toArray) (.int .i64 (j : Int))).run Tryd.prog w = .ok v w := by
  have hj2 : 0 ≤ (j : Int) ∧ (j : Int) < ((8 : Nat) : Int) := by omega
  unfold Instr.index part
  simp only [asIntOf, Sem.run_bind, Sem.run_pure, run_underlying Tryd.underlying45, Result.andThen, hj2, and_self, if_true, run_sizeOf_u32, run_isAgg_u32, Int.toNat_natCast, Nat.mul_one, List.getElem?_toArray, h, Bool.false_eq_true, if_false]
theorem fixed8 (n : Nat) (hn : n < 72057594037927936) : fixedL 8 n = 0 :: fixedL 7 n := by
  have h := fixedL_top 7 n
  rw [Nat.mod_eq_of_lt (show n < 256 ^ (7 + 1) by omega), Nat.mod_eq_of_lt (show n < 256 ^ 7 by omega), Nat.div_eq_of_lt (show n < 256 ^ 7 by omega)] at h
  exact h
theorem fixed7_of (n : Nat) (x : Int) (hx : x = (n : Int)) (hn : n < 72057594037927936) : fixedF x 7 = fixedL 7 n := by
  rw [hx]
  exact fixedF_nat (width := 7) (by omega) (by omega) (by omega)
theorem fixed4_of (n : Nat) (hn : n < 4294967296) : fixedF (n : Int) 4 = fixedL 4 n := fixedF_nat (width := 4) (by omega) (by omega) (by omega)
theorem padL_eq (l : List UInt8) (Z : Nat) (hZ : Z = shaZ l.length) (hl : l.length ≤ 1099511627776) : l ++ [128] ++ List.replicate (Z + 1) 0 ++ fixedL 7 (8 * l.length) = padL l := by
  rw [padL, fixed8 _ (by omega), hZ, List.replicate_succ', List.append_assoc, List.append_assoc, List.append_assoc]
  simp
theorem outL_snoc (l : List Nat) (j : Nat) (hj : j < l.length) : outL (l.take j) ++ fixedL 4 (l.getD j 0) = outL (l.take (j + 1)) := by
  rw [List.take_succ_eq_append_getElem hj, outL, outL, List.flatMap_append, List.getD_eq_getElem?_getD, List.getElem?_eq_getElem hj]
  simp
set_option maxRecDepth 100000 in
set_option maxHeartbeats 1600000 in
theorem iSha_any (l : List UInt8) (w : World) (hl : l.length ≤ 1099511627776) (hK : KK w) :
    Calls Tryd.prog 9 #[.string (bs l)] w fun e w' => e = .returned (.string (bs (shaL l))) ∧ Below w.heap.size w w' := by
  have hB0 := hK.pos
  have hF7 := fixed7_of (8 * l.length) (8 * (l.length : Int)) (by omega) (by omega)
  obtain ⟨Z, hZ⟩ : ∃ Z, Z = shaZ l.length := ⟨_, rfl⟩
  have hz : (64 - ((l.length : Int) + 9) % 64) % 64 = (Z : Int) := by rw [hZ, shaZ]; omega
  have hZ63 : Z ≤ 63 := by rw [hZ, shaZ]; omega
  have hP := padL_eq l Z hZ hl
  have hPl := padL_length l
  have hPm := padL_mod l
  rw [← hZ] at hPl
  have HR := Lib.hid (show shaL l = outL (shaN (padL l) ((padL l).length / 64)).toL from rfl)
  generalize hpp : padL l = pp at hP hPl hPm HR
  have HF := Lib.hid hF7; clear hF7
  have hf7 := fixedL_length 7 (8 * l.length)
  have HP := Lib.hid hP; clear hP
  have ES := Lib.hid (show (bs l ++ (ByteArray.mk #[128]) ++ bs (List.replicate (Z + 1) 0) ++ bs (fixedL 7 (8 * l.length)) = bs pp) ∧ (bs l ++ (ByteArray.mk #[128]) ++ bs (List.replicate (Z + 1) 0) = bs (l ++ [128] ++ List.replicate (Z + 1) 0)) ∧ (bs l ++ (ByteArray.mk #[128]) = bs (l ++ [128])) from
    ⟨by rw [show (ByteArray.mk #[128]) = bs [128] from rfl, bs_append, bs_append, bs_append, HP.out], by rw [show (ByteArray.mk #[128]) = bs [128] from rfl, bs_append, bs_append], by rw [show (ByteArray.mk #[128]) = bs [128] from rfl, bs_append]⟩)
  clear hZ hpp
  go_enter Tryd.func9, Tryd.ntmps9
  go_wp2
  obtain ⟨J, hJ⟩ : ∃ J : Act → Act → World → Prop, J = fun a0 a' w' => ∃ g : Nat, a' = (Act.put (Act.put (Act.put (Act.put (Act.put (Act.put (Act.put (Act.put (Act.put (Act.put (Act.put a0 (some 20) (.string (bs l))) (some 22) (.int .i64 (Z : Int))) (some 27) (.int .i64 (8 * (l.length : Int)))) (some 21) (.string (bs (l ++ [128])))) (some 23) (.int .i64 ((Z : Int) + 1))) (some 24) (.slice (some ⟨g, 0, none⟩) (Z + 1) (Z + 1))) (some 25) (.string (bs (List.replicate (Z + 1) 0)))) (some 26) (.string (bs (l ++ [128] ++ List.replicate (Z + 1) 0)))) (some 28) (.string (bs (fixedL 7 (8 * l.length))))) (some 29) (.string (bs pp))) (some 5) (.string (bs pp))) ∧ Below w.heap.size w w' := ⟨_, rfl⟩
  have HJ := Lib.hid hJ; clear hJ
  refine wp_join J ?_ ?_
  · refine wp_region_t 11 (.one 0 (.one 2 (.one 7 (.one 1 (.one 3 (.two 4 8 (.two 5 8 (.one 6 (.one 8 (.one 9 (.one 10 .leaf)))) (.one 5 (.one 6 (.one 9 (.one 10 .leaf))))) (.one 4 (.one 5 (.one 6 (.one 9 (.one 10 .leaf))))))))))) (by kernel_rfl) (by kernel_rfl) ?_
    iterate 5 (refine wpT_quiet rfl (by kernel_rfl) rfl ?_; go_wp2; refine ⟨rfl, ?_⟩)
    have BW := Lib.hid (show Below w.heap.size w w.drew from (Below.refl _ _).drew)
    generalize w.drew = u at BW ⊢
    refine wpT_two rfl rfl ?_ ?_
    · skip
      refine wpList_mk E_u8 u rfl _ _ rfl w.heap.size .i64 .i64 _ _ (Z + 1) rfl rfl (by omega) (by omega) (by omega) BW.out.size ?_; intro u0 hown hgrow
      go_wp2
      have hb : Below (World.heap u).size u u0 := Below.grown (Below.refl _ _) hgrow (Nat.le_refl _) (by simp)
      refine ⟨Ext.of_below hb, ?_⟩
      have e0 : (madeCells (Value.int IntKind.u8 0).cells ((Z + 1) * 1)).toList = (List.replicate (Z + 1) (0 : UInt8)).map u8v := by
        rw [Nat.mul_one]; simp only [Value.cells, toList_madeCells_one, List.map_replicate]; rfl
      rw [e0] at hown; have HO := Lib.hid hown; clear hown e0 hgrow
      have X := Lib.hid (show Below w.heap.size w u0 from BW.out.trans (hb.mono BW.out.size)); clear BW hb; have BW := Lib.hid X.out; clear X
      generalize (World.heap u).size = gs at HO ⊢
      refine wpT_two rfl rfl ?_ ?_
      · skip
        refine wpList_bytes_own _ rfl 24 9 _ rfl 5 E_u8.ht Tryd.underlying5 Tryd.underlying9 w.heap.size _ _ (List.replicate (Z + 1) 0) rfl (by exact HO.out) ?_; go_wp2
        refine ⟨Ext.refl _, ?_⟩
        clear HO
        refine wpT_quiet rfl (by kernel_rfl) rfl ?_; go_wp2; refine ⟨rfl, ?_⟩
        refine wpT_actor rfl (by kernel_rfl) ?_
        go_wp2_with fail
        refine (iFixed_any _ 7 _ ⟨by omega, by omega⟩).mono ?_; rintro e u1 ⟨rfl, hb⟩
        have X := Lib.hid (show Below w.heap.size w u1 from BW.out.trans (hb.mono BW.out.size)); clear BW; have BW := Lib.hid X.out; clear X
        have HB := Lib.hid hb; clear hb
        rw [HF.out]
        go_wp2
        refine ⟨Ext.of_below HB.out, ?_⟩
        clear HB
        skip
        refine wpT_quiet rfl (by kernel_rfl) rfl ?_; go_wp2; refine ⟨rfl, ?_⟩
        refine wpT_quiet rfl (by kernel_rfl) rfl ?_; go_wp2; refine ⟨rfl, ?_⟩
        refine wpT_nil ?_; try simp only [List.drop_succ_cons, List.drop_zero]
        simp only [wpList]
        refine ⟨by first | rfl | trivial, ?_⟩; rw [HJ.out]; refine ⟨gs, ?_, BW.out⟩
        simp only [Act.put, List.setIfInBounds_toArray, List.set_cons_succ, List.set_cons_zero]
        rw [ES.out.1, ES.out.2.1, ES.out.2.2, hz]
      · skip
        go_wp2_with fail
        refine (iFixed_any _ 7 _ ⟨by omega, by omega⟩).mono ?_; rintro e u2 ⟨rfl, hb⟩
        have X := Lib.hid (show Below w.heap.size w u2 from BW.out.trans (hb.mono BW.out.size)); clear BW; have BW := Lib.hid X.out; clear X
        have X := Lib.hid (ownsRow_keep (base' := w.heap.size) HO.out (fun b hb2 => ⟨(HO.out.lt b hb2).1, hb.block b (HO.out.lt b hb2).2⟩)); clear HO; have HO := Lib.hid X.out; clear X
        have HB := Lib.hid hb; clear hb
        rw [HF.out]
        go_wp2
        refine ⟨Ext.of_below HB.out, ?_⟩
        clear HB
        refine wpT_actor rfl (by kernel_rfl) ?_
        refine wpList_bytes_own _ rfl 24 9 _ rfl 5 E_u8.ht Tryd.underlying5 Tryd.underlying9 w.heap.size _ _ (List.replicate (Z + 1) 0) rfl (by exact HO.out) ?_; go_wp2
        refine ⟨Ext.refl _, ?_⟩
        clear HO
        refine wpT_quiet rfl (by kernel_rfl) rfl ?_; go_wp2; refine ⟨rfl, ?_⟩
        skip
        refine wpT_quiet rfl (by kernel_rfl) rfl ?_; go_wp2; refine ⟨rfl, ?_⟩
        refine wpT_quiet rfl (by kernel_rfl) rfl ?_; go_wp2; refine ⟨rfl, ?_⟩
        refine wpT_nil ?_; try simp only [List.drop_succ_cons, List.drop_zero]
        simp only [wpList]
        refine ⟨by first | rfl | trivial, ?_⟩; rw [HJ.out]; refine ⟨gs, ?_, BW.out⟩
        simp only [Act.put, List.setIfInBounds_toArray, List.set_cons_succ, List.set_cons_zero]
        rw [ES.out.1, ES.out.2.1, ES.out.2.2, hz]
    · skip
      go_wp2_with fail
      refine (iFixed_any _ 7 _ ⟨by omega, by omega⟩).mono ?_; rintro e u3 ⟨rfl, hb⟩
      have X := Lib.hid (show Below w.heap.size w u3 from BW.out.trans (hb.mono BW.out.size)); clear BW; have BW := Lib.hid X.out; clear X
      have HB := Lib.hid hb; clear hb
      rw [HF.out]
      go_wp2
      refine ⟨Ext.of_below HB.out, ?_⟩
      clear HB
      refine wpT_actor rfl (by kernel_rfl) ?_
      refine wpList_mk E_u8 u3 rfl _ _ rfl w.heap.size .i64 .i64 _ _ (Z + 1) rfl rfl (by omega) (by omega) (by omega) BW.out.size ?_; intro u4 hown hgrow
      go_wp2
      have hb : Below (World.heap u3).size u3 u4 := Below.grown (Below.refl _ _) hgrow (Nat.le_refl _) (by simp)
      refine ⟨Ext.of_below hb, ?_⟩
      have e0 : (madeCells (Value.int IntKind.u8 0).cells ((Z + 1) * 1)).toList = (List.replicate (Z + 1) (0 : UInt8)).map u8v := by
        rw [Nat.mul_one]; simp only [Value.cells, toList_madeCells_one, List.map_replicate]; rfl
      rw [e0] at hown; have HO := Lib.hid hown; clear hown e0 hgrow
      have X := Lib.hid (show Below w.heap.size w u4 from BW.out.trans (hb.mono BW.out.size)); clear BW hb; have BW := Lib.hid X.out; clear X
      generalize (World.heap u3).size = gs at HO ⊢
      refine wpT_actor rfl (by kernel_rfl) ?_
      refine wpList_bytes_own _ rfl 24 9 _ rfl 5 E_u8.ht Tryd.underlying5 Tryd.underlying9 w.heap.size _ _ (List.replicate (Z + 1) 0) rfl (by exact HO.out) ?_; go_wp2
      refine ⟨Ext.refl _, ?_⟩
      clear HO
      refine wpT_quiet rfl (by kernel_rfl) rfl ?_; go_wp2; refine ⟨rfl, ?_⟩
      skip
      refine wpT_quiet rfl (by kernel_rfl) rfl ?_; go_wp2; refine ⟨rfl, ?_⟩
      refine wpT_quiet rfl (by kernel_rfl) rfl ?_; go_wp2; refine ⟨rfl, ?_⟩
      refine wpT_nil ?_; try simp only [List.drop_succ_cons, List.drop_zero]
      simp only [wpList]
      refine ⟨by first | rfl | trivial, ?_⟩; rw [HJ.out]; refine ⟨gs, ?_, BW.out⟩
      simp only [Act.put, List.setIfInBounds_toArray, List.set_cons_succ, List.set_cons_zero]
      rw [ES.out.1, ES.out.2.1, ES.out.2.2, hz]
  intro a' wp hj; rw [HJ.out] at hj; clear HJ J; obtain ⟨g, rfl, hbel⟩ := hj
  simp only [Act.put, List.setIfInBounds_toArray, List.set_cons_succ, List.set_cons_zero]
  have hpp41 : pp.length ≤ 2199023255552 := by omega
  clear hz hZ63 ES HF HP hf7 hPl
  generalize l ++ [128] ++ List.replicate (Z + 1) 0 = q26
  generalize l ++ [128] = q21
  generalize List.replicate (Z + 1) (0 : UInt8) = q25
  generalize fixedL 7 (8 * l.length) = q28
  generalize (64 - ((l.length : Int) + 9) % 64) % 64 = z0
  generalize 64 - ((l.length : Int) + 9) % 64 = z1
  generalize ((l.length : Int) + 9) % 64 = z2
  go_wp2
  obtain ⟨N, hN⟩ : ∃ N, N = pp.length / 64 := ⟨_, rfl⟩
  have hN64 : pp.length = 64 * N := by omega
  rw [← hN] at HR
  clear hN hPm
  have hlt2 : w.heap.size ≤ wp.heap.size := hbel.size
  have g1 : Blk (wp.alloc (.cells (shaH.toL.map u32v).toArray 45)) wp.heap.size 45 (shaH.toL.map u32v).toArray := blk_new _ _ _
  have hbel2 : Below w.heap.size w (wp.alloc (.cells (shaH.toL.map u32v).toArray 45)) := hbel.alloc hlt2 _
  clear hbel
  generalize wp.heap.size = vb at hlt2 g1 ⊢
  go_loopw [7] (fun i wr => ∃ k : Nat, k ≤ N ∧ i = .int .i64 ((64 * k : Nat) : Int) ∧ Blk wr vb 45 ((shaN pp k).toL.map u32v).toArray ∧ Below w.heap.size w wr) (fun i _ => pp.length - (intOf i).toNat)
  case atStart => exact ⟨0, Nat.zero_le _, rfl, g1, hbel2⟩
  case round =>
    clear g1 hbel2
    obtain ⟨k, hk, rfl, h1, hbel⟩ := hrel
    by_cases hlt : k < N
    · have hl64 : 64 * k + 64 ≤ pp.length := by omega
      have HS := Lib.hid (show shaN pp (k + 1) = blkV (shaN pp k) (List.take 64 (List.drop (64 * k) pp)) from rfl)
      have hok := shaN_ok pp k
      generalize shaN pp k = S at h1 HS hok
      obtain ⟨T, hT⟩ : ∃ T, T = blkV S (List.take 64 (List.drop (64 * k) pp)) := ⟨_, rfl⟩
      rw [← hT] at HS
      have HT := Lib.hid hT; clear hT
      go_wp2
      refine wp_region_x 7 [0, 1, 2, 3, 4, 5, 6] (by kernel_rfl) (by kernel_rfl) ?_
      refine wpX_quiet rfl (by kernel_rfl) rfl ?_; go_wp2_with (first | (refine wpList_load_arr _ ⟨vb, 0, none⟩ rfl ((S).toL.map u32v) agg_A8 rfl (blk_cells h1.drew) ?_) | fail); refine ⟨rfl, ?_⟩
      iterate 5 (refine wpX_quiet rfl (by kernel_rfl) rfl ?_; go_wp2; refine ⟨rfl, ?_⟩)
      refine wpX_actor rfl (by kernel_rfl) ?_; go_wp2_with fail
      refine (iBlk_any (S) (List.take 64 (List.drop (64 * k) pp)) _ (hok) (by simp; omega) (hK.below hbel.drew hB0)).mono ?_
      rintro e w2 ⟨rfl, hb2⟩
      rw [← HT.out]
      have HB := Lib.hid hb2; clear hb2
      go_wp2
      refine ⟨Ext.of_below HB.out, ?_⟩
      refine wpX_nil ?_; try simp only [List.drop_succ_cons, List.drop_zero]
      have h2 : Blk w2 vb 45 ((S).toL.map u32v).toArray := h1.drew.below HB.out
      have hbel2 : Below w.heap.size w w2 := hbel.drew.trans (HB.out.mono hbel.drew.size)
      go_wp2_with (first
        | ((with_reducible show wpList _ _ _ ({ dst := _, op := Op.store 45 _ _, type := _, pos := _, after := _, guard := _ } :: _) _ _); refine wpList_store_arr _ vb 45 0 (T.toL.map u32v) [] ((S).toL.map u32v) [] _ rfl rfl agg_A8 h2 rfl rfl rfl (one8 _) ?_; intro v3 hsb hsg)
        | fail)
      refine ⟨⟨k + 1, by omega, by go_num, by rw [HS.out]; exact hsb, Below.grown hbel2 hsg hbel2.size (fun j hj => by injection hj with hj; omega)⟩, by simp only [intOf]; omega⟩
    · have hkN : k = N := by omega
      subst hkN
      have hRok := shaN_ok pp k
      generalize shaN pp k = R at h1 HR hRok
      go_wp2_with (first
        | ((with_reducible show wpList _ _ _ ({ dst := _, op := Op.load 45 _, type := _, pos := _, after := _, guard := _ } :: _) _ _); refine wpList_load_arr _ ⟨vb, 0, none⟩ rfl (R.toL.map u32v) agg_A8 rfl (blk_cells h1) ?_)
        | fail)
      go_loopw [8, 45] (fun v i wr => ∃ j : Nat, j ≤ 8 ∧ i = .int .i64 (j : Int) ∧ v = .string (bs (outL (R.toL.take j))) ∧ Below w.heap.size w wr) (fun _ i _ => 8 - (intOf i).toNat)
      case atStart => exact ⟨0, by omega, rfl, rfl, hbel⟩
      case round =>
        clear h1 hbel
        obtain ⟨j, hj, rfl, rfl, hbel⟩ := hrel
        by_cases hlt : j < 8
        · have hx := toL_get R j hlt
          have lx := toL_lt hRok j
          have HX := Lib.hid (outL_snoc R.toL j hlt)
          have hlen : (outL (R.toL.take j)).length = 4 * j := by rw [outL_length, List.length_take]; show 4 * min j 8 = 4 * j; omega
          generalize R.toL.getD j 0 = x at hx lx HX
          have h4 := fixed4_of x lx
          have h4l : (fixedL 4 x).length = 4 := fixedL_length 4 x
          generalize outL (R.toL.take j) = acc at HX hlen ⊢
          have hix := idx8 _ j _ hlt hx
          go_wp2_with fail
          refine (iFixed_any _ 4 _ ⟨by omega, by omega⟩).mono ?_
          rintro e w2 ⟨rfl, hb2⟩
          rw [h4]
          have H2 := Lib.hid (hbel.trans (hb2.mono hbel.size)); clear hb2
          go_wp2
          exact ⟨⟨j + 1, by omega, by go_num, by rw [← HX.out], H2.out⟩, by simp only [intOf]; omega⟩
        · have hj8 : j = 8 := by omega
          subst hj8
          go_wp2
          go_ret
          exact ⟨ret_eq (by rw [HR.out]; rfl), hbel⟩
def shortL (l : List UInt8) : List UInt8 := (shaL l).take 8
set_option maxRecDepth 100000 in
theorem iShort_any (l : List UInt8) (w : World) (hl : l.length ≤ 1099511627776) (hK : KK w) :
    Calls Tryd.prog 11 #[.string (bs l)] w fun e w' => e = .returned (.string (bs (shortL l))) ∧ Below w.heap.size w w' := by
  have hlen := shaL_length l
  have HS := Lib.hid (show shortL l = (shaL l).take 8 from rfl)
  obtain ⟨R, hR⟩ : ∃ R, R = shaL l := ⟨_, rfl⟩
  rw [← hR] at hlen HS
  have HR := Lib.hid hR; clear hR
  go_enter Tryd.func11, Tryd.ntmps11
  go_wp2_with fail
  refine (iSha_any l _ hl hK).mono ?_
  rintro e w2 ⟨rfl, hb2⟩
  rw [← HR.out]
  have H2 := Lib.hid hb2; clear hb2
  go_wp2
  go_ret
  exact ⟨ret_eq (by rw [HS.out]; rfl), H2.out⟩
end Go.Proofs.YtmhbfeglnhangaaDoor
