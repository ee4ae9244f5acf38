/-
  One block of SHA-256 in the program as the plain function blkV. Conditions: a block of 64 bytes, words below 2^32, the table of constants lies at its place.
-/
import Derived.Test.YtmhbfeglnhangaaDoorSha1
import Derived.Test.YtmhbfeglnhangaaDoorArr
namespace Go.Proofs.YtmhbfeglnhangaaDoor
open Go.RowKit

def u32v (n : Nat) : Value := .int .u32 (n : Int)
def KK (w : World) : Prop := ∀ j, j < 64 → w.cell? ⟨0, j, none⟩ = some (.int .u32 ((shaK.getD j 0 : Nat) : Int))
theorem xor_ones (x : Nat) (hx : x < 4294967296) : 4294967295 ^^^ x = 4294967295 - x := by
  apply Nat.eq_of_testBit_eq
  intro i
  rw [Nat.testBit_xor, show 4294967295 - x = 2 ^ 32 - (x + 1) by omega, Nat.testBit_two_pow_sub_succ (by omega), show (4294967295 : Nat) = 2 ^ 32 - 1 from rfl, Nat.testBit_two_pow_sub_one]
  by_cases hi : i < 32
  · simp [hi]
  · have : x.testBit i = false := Nat.testBit_lt_two_pow (Nat.lt_of_lt_of_le hx (show 2 ^ 32 ≤ 2 ^ i from Nat.pow_le_pow_right (by omega) (by omega)))
    simp [hi, this]
theorem u32_not (x : Nat) (hx : x < 4294967296) : bits .xor .u32 IntKind.u32.max (x : Int) = ((4294967295 - x : Nat) : Int) := by
  rw [show IntKind.u32.max = ((4294967295 : Nat) : Int) from rfl, u32_xor_nat _ _ (by omega) hx, xor_ones x hx]
theorem KK.below {B : Nat} {w w' : World} (h : KK w) (hb : Below B w w') (hB : 0 < B) : KK w' := fun j hj => by
  rw [← h j hj]
  exact World.cell?_of_block (hb.block _ hB)
def schA (b : List UInt8) (k : Nat) : List Nat := sch b k ++ List.replicate (64 - k) 0
theorem schA_length (b : List UInt8) (k : Nat) (hk : k ≤ 64) : (schA b k).length = 64 := by rw [schA, List.length_append, sch_length, List.length_replicate]; omega
theorem schA_set (b : List UInt8) (k x : Nat) (hk : k < 64) (hx : x = schW b k (sch b k)) : ((schA b k).map u32v).set k (.int .u32 (x : Int)) = (schA b (k + 1)).map u32v := by
  rw [schA, show 64 - k = (64 - (k + 1)) + 1 by omega, List.replicate_succ, List.map_append, List.set_append_right _ _ (by rw [List.length_map, sch_length]; exact Nat.le_refl _), List.length_map, sch_length, Nat.sub_self, List.map_cons, List.set_cons_zero, schA, sch, List.append_assoc, List.map_append, hx]
  rfl
theorem schA_get (b : List UInt8) (k j : Nat) (hj : j < k) (hk : k ≤ 64) : ((schA b k).map u32v)[j]? = some (.int .u32 (((sch b k).getD j 0 : Nat) : Int)) := by
  have hl : j < (sch b k).length := by rw [sch_length]; exact hj
  rw [schA, List.map_append, List.getElem?_append_left (by rw [List.length_map]; exact hl), List.getElem?_map, List.getElem?_eq_getElem hl]
  simp only [Option.map_some, List.getD_eq_getElem?_getD, List.getElem?_eq_getElem hl, Option.getD_some, u32v]
theorem blk_newAt (w : World) (cs cs' : Array Value) (e g : Nat) (hg : g = w.heap.size) (hc : cs = cs') : Blk (w.alloc (.cells cs e)) g e cs' := by subst hg hc; exact blk_new _ _ _
theorem agg_A8 : AggA Tryd.prog 45 8 := ⟨by kernel_rfl, by kernel_rfl⟩
theorem one8 (h : V8) : ∀ u ∈ h.toL.map u32v, u.oneCell' = true := by
  intro u hu
  obtain ⟨n, _, rfl⟩ := List.mem_map.1 hu
  rfl
def addJ (h v : V8) (j : Nat) : List Nat := (h.add v).toL.take j ++ h.toL.drop j
theorem addJ_set (h v : V8) (j : Nat) (hj : j < 8) : ((addJ h v j).map u32v).set j (.int .u32 (((h.toL.getD j 0 + v.toL.getD j 0) % 4294967296 : Nat) : Int)) = (addJ h v (j + 1)).map u32v := by
  have : j = 0 ∨ j = 1 ∨ j = 2 ∨ j = 3 ∨ j = 4 ∨ j = 5 ∨ j = 6 ∨ j = 7 := by omega
  rcases this with rfl | rfl | rfl | rfl | rfl | rfl | rfl | rfl <;> rfl
theorem addJ_get (h v : V8) (j : Nat) (hj : j < 8) : ((addJ h v j).map u32v)[j]? = some (.int .u32 ((h.toL.getD j 0 : Nat) : Int)) := by
  have : j = 0 ∨ j = 1 ∨ j = 2 ∨ j = 3 ∨ j = 4 ∨ j = 5 ∨ j = 6 ∨ j = 7 := by omega
  rcases this with rfl | rfl | rfl | rfl | rfl | rfl | rfl | rfl <;> rfl
theorem toL_get (v : V8) (j : Nat) (hj : j < 8) : (v.toL.map u32v)[j]? = some (.int .u32 ((v.toL.getD j 0 : Nat) : Int)) := by
  have : j = 0 ∨ j = 1 ∨ j = 2 ∨ j = 3 ∨ j = 4 ∨ j = 5 ∨ j = 6 ∨ j = 7 := by omega
  rcases this with rfl | rfl | rfl | rfl | rfl | rfl | rfl | rfl <;> rfl
theorem toL_lt {v : V8} (hv : v.ok) (j : Nat) : v.toL.getD j 0 < 4294967296 := by
  refine getD_lt ?_ j
  obtain ⟨a, b, c, d, e, f, g, h⟩ := hv
  intro x hx
  simp only [V8.toL, List.mem_cons, List.not_mem_nil, or_false] at hx
  omega
theorem map_get0 (l : List Nat) (j : Nat) (hj : j < l.length) : ∃ v : Nat, (l.map u32v)[j]? = some (.int .u32 (v : Int)) :=
  ⟨l[j], by rw [List.getElem?_map, List.getElem?_eq_getElem hj]; rfl⟩
set_option maxRecDepth 100000 in
set_option maxHeartbeats 1000000 in
theorem iBlk_any (h : V8) (b : List UInt8) (w : World) (hh : h.ok) (hb : b.length = 64) (hK : KK w) :
    Calls Tryd.prog 25 #[.agg (h.toL.map u32v).toArray, .string (bs b)] w fun e w' => e = .returned (.agg ((blkV h b).toL.map u32v).toArray) ∧ Below w.heap.size w w' := by
  have hB0 : 0 < w.heap.size := by
    have h0 := hK 0 (by omega)
    by_cases hs : 0 < w.heap.size
    · exact hs
    · have hn : w.heap[(0 : Nat)]? = none := Array.getElem?_eq_none (by omega)
      simp [World.cell?, hn] at h0
  obtain ⟨R, hR⟩ : ∃ R, blkV h b = R := ⟨_, rfl⟩
  rw [hR]
  have HR0 := Lib.hid hR
  clear hR
  go_enter Tryd.func25, Tryd.ntmps25
  go_wp2
  go_loopw [22] (fun i wr => ∃ k : Nat, k ≤ 16 ∧ i = .int .i64 (k : Int) ∧ Blk wr w.heap.size 45 (h.toL.map u32v).toArray ∧ Blk wr (w.heap.size + 1) 45 (List.replicate 8 (u32v 0)).toArray ∧ Blk wr (w.heap.size + 1 + 1) 60 ((schA b k).map u32v).toArray ∧ Below w.heap.size w wr) (fun i _ => 16 - (intOf i).toNat)
  case atStart =>
    refine ⟨0, Nat.zero_le _, rfl, ((blk_new w _ _).alloc _).alloc _, (blk_newAt _ _ _ _ _ (by simp) rfl).alloc _, blk_newAt _ _ _ _ _ (by simp) rfl, (by repeat' (first | with_reducible exact Below.refl _ _ | with_reducible exact BW.out | with_reducible refine Below.setCell ?_ ?_ _ | with_reducible refine Below.alloc ?_ ?_ _ | with_reducible refine Below.drew ?_ | (simp; done) | (simp; omega) | omega))⟩
  case round =>
    obtain ⟨k, hk, rfl, h1, h2, h3, hbel⟩ := hrel
    by_cases hlt : k < 16
    · go_wp2_with fail
      rw [List.take_of_length_le (by simp; omega)]
      refine (four_any _ _ (by simp; omega) (by simp; omega)).mono ?_
      rintro e w2 ⟨rfl, hb2⟩
      rw [be4_drop]
      replace h1 := h1.below hb2
      replace h2 := h2.below hb2
      replace h3 := h3.below hb2
      have hbel2 : Below w.heap.size w w2 := hbel.trans (hb2.mono hbel.size)
      clear hb2 hbel
      obtain ⟨z, hz⟩ := map_get0 (schA b k) k (by rw [schA_length b k (by omega)]; omega)
      have hc : w2.cell? ⟨w.heap.size + 1 + 1, k, none⟩ = some (.int .u32 (z : Int)) := by rw [h3.cell]; simpa using hz
      have hf := h3.frozen k
      clear hz
      go_wp2
      refine ⟨⟨k + 1, by omega, by go_num, h1.setOther (by first | (simp; done) | (simp; omega) | omega) _, h2.setOther (by first | (simp; done) | (simp; omega) | omega) _, ?_, hbel2.setCell (by first | (simp; done) | (simp; omega) | omega) _⟩, by simp only [intOf]; omega⟩
      have h4 := h3.set k (.int .u32 ((be4 b k : Nat) : Int))
      rw [List.setIfInBounds_toArray, schA_set b k (be4 b k) (by omega) (by rw [schW, if_pos hlt])] at h4
      exact h4
    · have hd : decide ((k : Int) < 16) = false := by simp; omega
      replace h3 : Blk wr (w.heap.size + 1 + 1) 60 ((schA b 16).map u32v).toArray := by
        have hk16 : k = 16 := by omega
        subst hk16
        exact h3
      obtain ⟨k0, hk0⟩ : ∃ k0 : Int, k0 = (k : Int) := ⟨_, rfl⟩
      rw [← hk0] at hd ⊢
      clear hk0 hk hlt
      go_wp2_with fail
      go_loopw [7] (fun i wr => ∃ k : Nat, 16 ≤ k ∧ k ≤ 64 ∧ i = .int .i64 (k : Int) ∧ Blk wr w.heap.size 45 (h.toL.map u32v).toArray ∧ Blk wr (w.heap.size + 1) 45 (List.replicate 8 (u32v 0)).toArray ∧ Blk wr (w.heap.size + 1 + 1) 60 ((schA b k).map u32v).toArray ∧ Below w.heap.size w wr) (fun i _ => 64 - (intOf i).toNat)
      case atStart => exact ⟨16, Nat.le_refl _, by omega, rfl, h1, h2, h3, hbel⟩
      case round =>
        clear h1 h2 h3 hbel
        obtain ⟨k, hk1, hk2, rfl, h1, h2, h3, hbel⟩ := hrel
        by_cases hlt : k < 64
        · obtain ⟨x15, e15⟩ : ∃ x, x = (sch b k).getD (k - 15) 0 := ⟨_, rfl⟩
          obtain ⟨x2, e2⟩ : ∃ x, x = (sch b k).getD (k - 2) 0 := ⟨_, rfl⟩
          obtain ⟨x16, e16⟩ : ∃ x, x = (sch b k).getD (k - 16) 0 := ⟨_, rfl⟩
          obtain ⟨x7, e7⟩ : ∃ x, x = (sch b k).getD (k - 7) 0 := ⟨_, rfl⟩
          have l15 : x15 < 4294967296 := e15 ▸ getD_lt (sch_lt b k) _
          have l2 : x2 < 4294967296 := e2 ▸ getD_lt (sch_lt b k) _
          have l16 : x16 < 4294967296 := e16 ▸ getD_lt (sch_lt b k) _
          have l7 : x7 < 4294967296 := e7 ▸ getD_lt (sch_lt b k) _
          have c15 : wr.cell? ⟨w.heap.size + 1 + 1, k - 15, none⟩ = some (.int .u32 (x15 : Int)) := by rw [h3.cell, List.getElem?_toArray, e15]; exact schA_get b k (k - 15) (by omega) hk2
          have c2 : wr.cell? ⟨w.heap.size + 1 + 1, k - 2, none⟩ = some (.int .u32 (x2 : Int)) := by rw [h3.cell, List.getElem?_toArray, e2]; exact schA_get b k (k - 2) (by omega) hk2
          have c16 : wr.cell? ⟨w.heap.size + 1 + 1, k - 16, none⟩ = some (.int .u32 (x16 : Int)) := by rw [h3.cell, List.getElem?_toArray, e16]; exact schA_get b k (k - 16) (by omega) hk2
          have c7 : wr.cell? ⟨w.heap.size + 1 + 1, k - 7, none⟩ = some (.int .u32 (x7 : Int)) := by rw [h3.cell, List.getElem?_toArray, e7]; exact schA_get b k (k - 7) (by omega) hk2
          have HW := Lib.hid (show schW b k (sch b k) = (x16 + sg0 x15 + x7 + sg1 x2) % 4294967296 by rw [schW, if_neg (by omega), e15, e2, e16, e7])
          clear e15 e2 e16 e7
          have b1 := u32_xor_nat _ _ (rr_lt 7 l15) (rr_lt 18 l15)
          have b2 : bits .xor .u32 ((rr x15 7 ^^^ rr x15 18 : Nat) : Int) ((x15 : Int) / 8) = ((sg0 x15 : Nat) : Int) := by
            rw [show (x15 : Int) / (8 : Int) = ((x15 >>> 3 : Nat) : Int) by rw [Nat.shiftRight_eq_div_pow]; omega]
            exact u32_xor_nat _ _ (xor_lt (rr_lt 7 l15) (rr_lt 18 l15)) (shr_lt 3 l15)
          have b3 := u32_xor_nat _ _ (rr_lt 17 l2) (rr_lt 19 l2)
          have b4 : bits .xor .u32 ((rr x2 17 ^^^ rr x2 19 : Nat) : Int) ((x2 : Int) / 1024) = ((sg1 x2 : Nat) : Int) := by
            rw [show (x2 : Int) / (1024 : Int) = ((x2 >>> 10 : Nat) : Int) by rw [Nat.shiftRight_eq_div_pow]; omega]
            exact u32_xor_nat _ _ (xor_lt (rr_lt 17 l2) (rr_lt 19 l2)) (shr_lt 10 l2)
          have ls0 := sg0_lt l15
          have ls1 := sg1_lt l2
          obtain ⟨z, hz⟩ := map_get0 (schA b k) k (by rw [schA_length b k (by omega)]; omega)
          have hc : wr.cell? ⟨w.heap.size + 1 + 1, k, none⟩ = some (.int .u32 (z : Int)) := by rw [h3.cell, List.getElem?_toArray]; exact hz
          have hf := h3.frozen k
          clear hz
          go_wp2
          refine wp_region_x 10 [0, 1, 2, 3, 4, 5, 6, 7, 8, 9] (by kernel_rfl) (by kernel_rfl) ?_
          iterate 10 (refine wpX_quiet rfl (by kernel_rfl) rfl ?_; go_wp2; refine ⟨rfl, ?_⟩)
          refine wpX_nil ?_; simp only [List.drop_succ_cons, List.drop_zero]
          go_wp2_with fail
          refine (rot7 x15 _ l15).mono ?_
          rintro e _ ⟨rfl, rfl⟩
          go_wp2_with fail
          refine (rot18 x15 _ l15).mono ?_
          rintro e _ ⟨rfl, rfl⟩
          go_wp2_with fail
          refine (rot17 x2 _ l2).mono ?_
          rintro e _ ⟨rfl, rfl⟩
          go_wp2_with fail
          refine (rot19 x2 _ l2).mono ?_
          rintro e _ ⟨rfl, rfl⟩
          go_wp2
          refine wp_region_x 15 [0, 1, 2, 3, 4, 5, 6, 7, 8, 9, 10, 11, 12, 13, 14] (by kernel_rfl) (by kernel_rfl) ?_
          iterate 15 (refine wpX_quiet rfl (by kernel_rfl) rfl ?_; go_wp2; refine ⟨rfl, ?_⟩)
          refine wpX_nil ?_; simp only [List.drop_succ_cons, List.drop_zero]
          go_wp2
          refine ⟨⟨k + 1, by omega, by omega, by go_num, h1.drew.drew.setOther (by first | (simp; done) | (simp; omega) | omega) _, h2.drew.drew.setOther (by first | (simp; done) | (simp; omega) | omega) _, ?_, hbel.drew.drew.setCell (by first | (simp; done) | (simp; omega) | omega) _⟩, by simp only [intOf]; omega⟩
          have h4 := h3.set k (.int .u32 ((schW b k (sch b k) : Nat) : Int))
          rw [List.setIfInBounds_toArray, schA_set b k _ hlt rfl] at h4
          rw [show ((x16 : Int) + (sg0 x15 : Int) + (x7 : Int) + (sg1 x2 : Int)) % (4294967296 : Int) = ((schW b k (sch b k) : Nat) : Int) by rw [HW.out]; omega]
          exact h4
        · have hd2 : decide ((k : Int) < 64) = false := by simp; omega
          replace h3 : Blk wr (w.heap.size + 1 + 1) 60 ((schA b 64).map u32v).toArray := by
            have hk64 : k = 64 := by omega
            subst hk64
            exact h3
          obtain ⟨k1, hk0⟩ : ∃ k1 : Int, k1 = (k : Int) := ⟨_, rfl⟩
          rw [← hk0] at hd2 ⊢
          clear hk0 hk1 hk2 hlt
          have hlt2 : w.heap.size + 1 + 1 < wr.heap.size := h3.lt
          go_wp2_with (first
            | ((with_reducible show wpList _ _ _ ({ dst := _, op := Op.load 45 _, type := _, pos := _, after := _, guard := _ } :: _) _ _); refine wpList_load_arr _ ⟨w.heap.size, 0, none⟩ rfl (h.toL.map u32v) agg_A8 rfl (blk_cells h1) ?_)
            | ((with_reducible show wpList _ _ _ ({ dst := _, op := Op.store 45 _ _, type := _, pos := _, after := _, guard := _ } :: _) _ _); refine wpList_store_arr _ wr.heap.size 45 0 (h.toL.map u32v) [] (List.replicate 8 (u32v 0)) [] _ rfl rfl agg_A8 (blk_newAt _ _ _ _ _ rfl rfl) rfl rfl rfl (one8 h) ?_; intro v2 hsb hsg)
            | fail)
          have g1 : Blk v2 w.heap.size 45 (h.toL.map u32v).toArray := (h1.alloc _).grown hsg (by omega)
          have g2 : Blk v2 (w.heap.size + 1) 45 (List.replicate 8 (u32v 0)).toArray := (h2.alloc _).grown hsg (by omega)
          have g3 : Blk v2 (w.heap.size + 1 + 1) 60 ((schA b 64).map u32v).toArray := (h3.alloc _).grown hsg (by omega)
          have g4 : Blk v2 wr.heap.size 45 (h.toL.map u32v).toArray := by simpa using hsb
          have hbel2 : Below w.heap.size w v2 := Below.grown (hbel.alloc (by omega) _) hsg (by simp; omega) (fun k hk => by injection hk with hk; omega)
          clear h1 h2 h3 hbel hsb hsg
          generalize wr.heap.size = vb at hlt2 g4 ⊢
          go_loopw [77] (fun i wr => ∃ k : Nat, k ≤ 64 ∧ i = .int .i64 (k : Int) ∧ Blk wr w.heap.size 45 (h.toL.map u32v).toArray ∧ Blk wr (w.heap.size + 1) 45 (List.replicate 8 (u32v 0)).toArray ∧ Blk wr (w.heap.size + 1 + 1) 60 ((schA b 64).map u32v).toArray ∧ Blk wr vb 45 ((rnds shaK (sch b 64) h k).toL.map u32v).toArray ∧ Below w.heap.size w wr) (fun i _ => 64 - (intOf i).toNat)
          case atStart => exact ⟨0, by omega, rfl, g1, g2, g3, g4, hbel2⟩
          case round =>
            clear g1 g2 g3 g4 hbel2
            obtain ⟨k, hk, rfl, h1, h2, h3, h4, hbel⟩ := hrel
            by_cases hlt : k < 64
            · obtain ⟨V, hV⟩ : ∃ V, V = rnds shaK (sch b 64) h k := ⟨_, rfl⟩
              rw [← hV] at h4
              have HV := Lib.hid (show rnds shaK (sch b 64) h (k + 1) = rnd V (shaK.getD k 0) ((sch b 64).getD k 0) by rw [rnds, hV])
              have hok : V.ok := hV ▸ rnds_ok _ _ hh k
              clear hV
              obtain ⟨ra, rb, rc, rd, re, rf, rg, rh⟩ := V
              obtain ⟨la, lb, lc, ld, le, lf, lg, lh⟩ := hok
              have cw : wr.cell? ⟨w.heap.size + 1 + 1, k, none⟩ = some (.int .u32 (((sch b 64).getD k 0 : Nat) : Int)) := by rw [h3.cell, List.getElem?_toArray]; exact schA_get b 64 k hlt (Nat.le_refl _)
              have ck := hK.below hbel hB0 k hlt
              have lw := getD_lt (sch_lt b 64) k
              have lk := getD_lt shaK_lt k
              generalize (sch b 64).getD k 0 = xw at HV cw lw
              generalize shaK.getD k 0 = xk at HV ck lk
              have ca : wr.cell? ⟨vb, 0, none⟩ = some (.int .u32 (ra : Int)) := h4.cell 0
              have cb : wr.cell? ⟨vb, 1, none⟩ = some (.int .u32 (rb : Int)) := h4.cell 1
              have cc : wr.cell? ⟨vb, 2, none⟩ = some (.int .u32 (rc : Int)) := h4.cell 2
              have cd : wr.cell? ⟨vb, 3, none⟩ = some (.int .u32 (rd : Int)) := h4.cell 3
              have ce : wr.cell? ⟨vb, 4, none⟩ = some (.int .u32 (re : Int)) := h4.cell 4
              have cf : wr.cell? ⟨vb, 5, none⟩ = some (.int .u32 (rf : Int)) := h4.cell 5
              have cg : wr.cell? ⟨vb, 6, none⟩ = some (.int .u32 (rg : Int)) := h4.cell 6
              have ch : wr.cell? ⟨vb, 7, none⟩ = some (.int .u32 (rh : Int)) := h4.cell 7
              simp only at la lb lc ld le lf lg lh
              have b0 := u32_not re le
              have b1 := u32_xor_nat _ _ (rr_lt 6 le) (rr_lt 11 le)
              have b2 : bits .xor .u32 ((rr re 6 ^^^ rr re 11 : Nat) : Int) ((rr re 25 : Nat) : Int) = ((bg1 re : Nat) : Int) := u32_xor_nat _ _ (xor_lt (rr_lt 6 le) (rr_lt 11 le)) (rr_lt 25 le)
              have b3 := u32_xor_nat _ _ (rr_lt 2 la) (rr_lt 13 la)
              have b4 : bits .xor .u32 ((rr ra 2 ^^^ rr ra 13 : Nat) : Int) ((rr ra 22 : Nat) : Int) = ((bg0 ra : Nat) : Int) := u32_xor_nat _ _ (xor_lt (rr_lt 2 la) (rr_lt 13 la)) (rr_lt 22 la)
              have b5 := u32_and_nat _ _ le lf
              have b6 := u32_and_nat (4294967295 - re) rg (by omega) lg
              have b7 : bits .xor .u32 ((re &&& rf : Nat) : Int) (((4294967295 - re) &&& rg : Nat) : Int) = ((chf re rf rg : Nat) : Int) := u32_xor_nat _ _ (and_ltL le) (and_ltL (by omega))
              have b8 := u32_and_nat _ _ la lb
              have b9 := u32_and_nat _ _ la lc
              have b10 := u32_and_nat _ _ lb lc
              have b11 := u32_xor_nat _ _ (and_ltL (b := rb) la) (and_ltL (b := rc) la)
              have b12 : bits .xor .u32 (((ra &&& rb) ^^^ (ra &&& rc) : Nat) : Int) ((rb &&& rc : Nat) : Int) = ((mjf ra rb rc : Nat) : Int) := u32_xor_nat _ _ (xor_lt (and_ltL la) (and_ltL la)) (and_ltL lb)
              have hsi : IntKind.u32.signed = false := rfl
              have l1 := bg1_lt le
              have l2 := bg0_lt la
              have l3 := chf_lt (f := rf) (g := rg) le
              have l4 := mjf_lt (c := rc) la lb
              go_wp2
              refine wp_region_x 6 [0, 1, 2, 3, 4, 5] (by kernel_rfl) (by kernel_rfl) ?_
              iterate 6 (refine wpX_quiet rfl (by kernel_rfl) rfl ?_; go_wp2; refine ⟨rfl, ?_⟩)
              refine wpX_nil ?_; simp only [List.drop_succ_cons, List.drop_zero]
              go_wp2_with fail
              refine (rot6 re _ le).mono ?_
              rintro e _ ⟨rfl, rfl⟩
              go_wp2_with fail
              refine (rot11 re _ le).mono ?_
              rintro e _ ⟨rfl, rfl⟩
              go_wp2_with fail
              refine (rot25 re _ le).mono ?_
              rintro e _ ⟨rfl, rfl⟩
              go_wp2
              refine wp_region_x 15 [0, 1, 2, 3, 4, 5, 6, 7, 8, 9, 10, 11, 12, 13, 14] (by kernel_rfl) (by kernel_rfl) ?_
              iterate 15 (refine wpX_quiet rfl (by kernel_rfl) rfl ?_; go_wp2; refine ⟨rfl, ?_⟩)
              refine wpX_nil ?_; simp only [List.drop_succ_cons, List.drop_zero]
              go_wp2_with fail
              refine (rot2 ra _ la).mono ?_
              rintro e _ ⟨rfl, rfl⟩
              go_wp2_with fail
              refine (rot13 ra _ la).mono ?_
              rintro e _ ⟨rfl, rfl⟩
              go_wp2_with fail
              refine (rot22 ra _ la).mono ?_
              rintro e _ ⟨rfl, rfl⟩
              go_wp2_with (first
                | ((with_reducible show wpList _ _ _ ({ dst := _, op := Op.store 45 _ _, type := _, pos := _, after := _, guard := _ } :: _) _ _); refine wpList_store_arr _ vb 45 0 [_, _, _, _, _, _, _, _] [] ((V8.mk ra rb rc rd re rf rg rh).toL.map u32v) [] _ rfl rfl agg_A8 h4.drew.drew rfl rfl rfl (by intro u hu; simp only [List.mem_cons, List.not_mem_nil, or_false] at hu; rcases hu with rfl | rfl | rfl | rfl | rfl | rfl | rfl | rfl <;> rfl) ?_; intro v3 hsb hsg)
                | fail)
              refine ⟨⟨k + 1, by omega, by go_num, h1.drew.drew.grown hsg (by omega), h2.drew.drew.grown hsg (by omega), h3.drew.drew.grown hsg (by omega), ?_, Below.grown hbel.drew.drew hsg (by have := hbel.size; simpa using this) (fun j hj => by injection hj with hj; omega)⟩, by simp only [intOf]; omega⟩
              rw [HV.out]
              have e1 : ((rh : Int) + (bg1 re : Int) + (chf re rf rg : Int) + (xk : Int) + (xw : Int) + (bg0 ra : Int) + (mjf ra rb rc : Int)) % (4294967296 : Int) = (((rT ⟨ra, rb, rc, rd, re, rf, rg, rh⟩ xk xw + rU ⟨ra, rb, rc, rd, re, rf, rg, rh⟩) % 4294967296 : Nat) : Int) := by
                simp only [rT, rU]; omega
              have e2 : ((rd : Int) + ((rh : Int) + (bg1 re : Int) + (chf re rf rg : Int) + (xk : Int) + (xw : Int))) % (4294967296 : Int) = (((rd + rT ⟨ra, rb, rc, rd, re, rf, rg, rh⟩ xk xw) % 4294967296 : Nat) : Int) := by
                simp only [rT]; omega
              rw [e1, e2] at hsb
              exact hsb
            · have hd3 : decide ((k : Int) < 64) = false := by simp; omega
              replace h4 : Blk wr vb 45 ((rnds shaK (sch b 64) h 64).toL.map u32v).toArray := by
                have hk64 : k = 64 := by omega
                subst hk64
                exact h4
              obtain ⟨k2, hk0⟩ : ∃ k2 : Int, k2 = (k : Int) := ⟨_, rfl⟩
              rw [← hk0] at hd3 ⊢
              clear hk0 hk hlt h3
              have hVok : (rnds shaK (sch b 64) h 64).ok := rnds_ok _ _ hh 64
              have HR := Lib.hid (show R = h.add (rnds shaK (sch b 64) h 64) from HR0.out.symm)
              generalize rnds shaK (sch b 64) h 64 = V at h4 hVok HR
              go_wp2_with fail
              go_loopw [162] (fun i wr => ∃ j : Nat, j ≤ 8 ∧ i = .int .i64 (j : Int) ∧ Blk wr w.heap.size 45 ((addJ h V j).map u32v).toArray ∧ Blk wr (w.heap.size + 1) 45 (List.replicate 8 (u32v 0)).toArray ∧ Blk wr vb 45 (V.toL.map u32v).toArray ∧ Below w.heap.size w wr) (fun i _ => 8 - (intOf i).toNat)
              case atStart => exact ⟨0, by omega, rfl, h1, h2, h4, hbel⟩
              case round =>
                clear h1 h2 h4 hbel
                obtain ⟨j, hj, rfl, h1, h2, h4, hbel⟩ := hrel
                by_cases hlt : j < 8
                · have c1 : wr.cell? ⟨w.heap.size, j, none⟩ = some (.int .u32 ((h.toL.getD j 0 : Nat) : Int)) := by rw [h1.cell, List.getElem?_toArray]; exact addJ_get h V j hlt
                  have c2 : wr.cell? ⟨vb, j, none⟩ = some (.int .u32 ((V.toL.getD j 0 : Nat) : Int)) := by rw [h4.cell, List.getElem?_toArray]; exact toL_get V j hlt
                  have hf := h1.frozen j
                  have l1 := toL_lt hh j
                  have l2 := toL_lt hVok j
                  have HS := Lib.hid (addJ_set h V j hlt)
                  generalize h.toL.getD j 0 = xa at c1 l1 HS
                  generalize V.toL.getD j 0 = xb at c2 l2 HS
                  go_wp2
                  refine wp_region_x 9 [0, 1, 2, 3, 4, 5, 6, 7, 8] (by kernel_rfl) (by kernel_rfl) ?_
                  iterate 9 (refine wpX_quiet rfl (by kernel_rfl) rfl ?_; go_wp2; refine ⟨rfl, ?_⟩)
                  refine wpX_nil ?_; simp only [List.drop_succ_cons, List.drop_zero]
                  go_wp2
                  refine ⟨⟨j + 1, by omega, by go_num, ?_, h2.drew.setOther (by first | (simp; done) | (simp; omega) | omega) _, h4.drew.setOther (by first | (simp; done) | (simp; omega) | omega) _, hbel.drew.setCell (by first | (simp; done) | (simp; omega) | omega) _⟩, by simp only [intOf]; omega⟩
                  have h5 := h1.set j (.int .u32 (((xa + xb) % 4294967296 : Nat) : Int))
                  rw [List.setIfInBounds_toArray, HS.out] at h5
                  rw [show ((xa : Int) + (xb : Int)) % (4294967296 : Int) = (((xa + xb) % 4294967296 : Nat) : Int) by omega]
                  exact h5
                · have h8 : addJ h V j = R.toL := by
                    have : j = 8 := by omega
                    subst this
                    rw [HR.out]
                    rfl
                  rw [h8] at h1
                  clear h8
                  go_wp2_with (first
                    | ((with_reducible show wpList _ _ _ ({ dst := _, op := Op.load 45 _, type := _, pos := _, after := _, guard := _ } :: _) _ _); refine wpList_load_arr _ ⟨w.heap.size, 0, none⟩ rfl (R.toL.map u32v) agg_A8 rfl (blk_cells h1) ?_)
                    | ((with_reducible show wpList _ _ _ ({ dst := _, op := Op.store 45 _ _, type := _, pos := _, after := _, guard := _ } :: _) _ _); refine wpList_store_arr _ (w.heap.size + 1) 45 0 (R.toL.map u32v) [] (List.replicate 8 (u32v 0)) [] _ rfl rfl agg_A8 h2 rfl rfl rfl (one8 _) ?_; intro v3 hsb hsg)
                    | fail)
                  refine bodyPost_arr rfl ⟨w.heap.size + 1, 0, none⟩ rfl (R.toL.map u32v) agg_A8 rfl (blk_cells (by simpa using hsb)) rfl ⟨rfl, Below.grown hbel hsg (by have := hbel.size; simpa using this) (fun j hj => by injection hj with hj; omega)⟩
end Go.Proofs.YtmhbfeglnhangaaDoor
