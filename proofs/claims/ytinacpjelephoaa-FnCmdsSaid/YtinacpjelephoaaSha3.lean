/-
  One block of SHA-256 in the reference as the plain function blkV. Conditions: a block of 64 bytes, words below 2^32, the two slices hold the state and the constants.
-/
import Derived.Test.YtinacpjelephoaaSha2
import Derived.Test.YtinacpjelephoaaScan
namespace Go.Proofs.Ytinacpjelephoaa
open Go.RowKit

def i64n (n : Nat) : Value := .int .i64 (n : Int)
theorem byte_i (b : UInt8) (k m : Nat) (M : Int) (hM : M = (m : Int)) (h : b.toNat <<< k = b.toNat * m) (hm : m ≤ 16777216) : wrap64 (wrap64 (b.toNat : Int) * M) = ((b.toNat <<< k : Nat) : Int) := by
  have hb := b.toNat_lt
  rw [h, hM]
  have h1 : b.toNat * m ≤ 255 * 16777216 := Nat.mul_le_mul (by omega) hm
  rw [IntWalk.wrap64_in (b.toNat : Int) (by omega), ← Int.natCast_mul]
  exact IntWalk.wrap64_in _ (by omega)
theorem be4_i64 (a b c d : UInt8) : bits .or .i64 (bits .or .i64 (bits .or .i64 (wrap64 (wrap64 (a.toNat : Int) * 16777216)) (wrap64 (wrap64 (b.toNat : Int) * 65536))) (wrap64 (wrap64 (c.toNat : Int) * 256))) (wrap64 (d.toNat : Int)) = ((a.toNat <<< 24 ||| b.toNat <<< 16 ||| c.toNat <<< 8 ||| d.toNat : Nat) : Int) := by
  have l1 := byte_shl a 24 (by omega)
  have l2 := byte_shl b 16 (by omega)
  have l3 := byte_shl c 8 (by omega)
  have l4 : d.toNat < 4294967296 := by have := d.toNat_lt; omega
  have l12 := Nat.or_lt_two_pow (n := 32) l1 l2
  have l123 := Nat.or_lt_two_pow (n := 32) l12 l3
  rw [byte_i a 24 16777216 16777216 rfl (Nat.shiftLeft_eq _ _) (by omega), byte_i b 16 65536 65536 rfl (Nat.shiftLeft_eq _ _) (by omega), byte_i c 8 256 256 rfl (Nat.shiftLeft_eq _ _) (by omega), IntWalk.wrap64_in (d.toNat : Int) (by omega)]
  rw [i64_or_nat _ _ (by omega) (by omega), i64_or_nat _ _ (by omega) (by omega), i64_or_nat _ _ (by omega) (by omega)]
theorem schI_set (b : List UInt8) (k x : Nat) (hk : k < 64) (hx : x = schW b k (sch b k)) : ((schA b k).map i64n).set k (.int .i64 (x : Int)) = (schA b (k + 1)).map i64n := by
  rw [schA, show 64 - k = (64 - (k + 1)) + 1 by omega, List.replicate_succ, List.map_append, List.set_append_right _ _ (by rw [List.length_map, sch_length]; exact Nat.le_refl _), List.length_map, sch_length, Nat.sub_self, List.map_cons, List.set_cons_zero, schA, sch, List.append_assoc, List.map_append, hx]
  rfl
theorem schI_get (b : List UInt8) (k j : Nat) (hj : j < k) (hk : k ≤ 64) : ((schA b k).map i64n)[j]? = some (.int .i64 (((sch b k).getD j 0 : Nat) : Int)) := by
  have hl : j < (sch b k).length := by rw [sch_length]; exact hj
  rw [schA, List.map_append, List.getElem?_append_left (by rw [List.length_map]; exact hl), List.getElem?_map, List.getElem?_eq_getElem hl]
  simp only [Option.map_some, List.getD_eq_getElem?_getD, List.getElem?_eq_getElem hl, Option.getD_some, i64n]
theorem mapI_get0 (l : List Nat) (j : Nat) (hj : j < l.length) : ∃ v : Nat, (l.map i64n)[j]? = some (.int .i64 (v : Int)) :=
  ⟨l[j], by rw [List.getElem?_map, List.getElem?_eq_getElem hj]; rfl⟩
theorem l3wordI (n : Int) (x : Nat) (w : World) (hn : n = (x : Int)) (hx : x < 9223372036854775808) :
    Calls Try.prog 65 #[.int .i64 n] w fun e w' => e = .returned (.int .i64 ((x % 4294967296 : Nat) : Int)) ∧ w = w' := by
  rw [hn]
  exact l3word x w hx
theorem xor_ones64 (x : Nat) (hx : x < 18446744073709551616) : 18446744073709551615 ^^^ x = 18446744073709551615 - x := by
  apply Nat.eq_of_testBit_eq
  intro i
  rw [Nat.testBit_xor, show 18446744073709551615 - x = 2 ^ 64 - (x + 1) by omega, Nat.testBit_two_pow_sub_succ (by omega), show (18446744073709551615 : Nat) = 2 ^ 64 - 1 from rfl, Nat.testBit_two_pow_sub_one]
  by_cases hi : i < 64
  · simp [hi]
  · have : x.testBit i = false := Nat.testBit_lt_two_pow (Nat.lt_of_lt_of_le hx (show 2 ^ 64 ≤ 2 ^ i from Nat.pow_le_pow_right (by omega) (by omega)))
    simp [hi, this]
theorem i64_not (x : Nat) (hx : x < 4294967296) : bits .xor .i64 (-1) (x : Int) = -(x : Int) - 1 := by
  show IntKind.i64.wrap ((BitVec.ofInt 64 (-1) ^^^ BitVec.ofInt 64 (x : Int)).toNat : Int) = _
  have e1 : (BitVec.ofInt 64 (-1)).toNat = 18446744073709551615 := by decide
  rw [BitVec.toNat_xor, e1, ofInt_i64 x (by omega), xor_ones64 x (by omega), IntKind.wrap_i64]
  omega
theorem l3wordN (n : Int) (x : Nat) (w : World) (hn : n = bits .xor .i64 (-1) (x : Int)) (hx : x < 4294967296) :
    Calls Try.prog 65 #[.int .i64 n] w fun e w' => e = .returned (.int .i64 ((4294967295 - x : Nat) : Int)) ∧ w = w' := by
  rw [hn, i64_not x hx]
  have hz : bits .and .i64 (-(x : Int) - 1) (4294967295 : Int) = ((4294967295 - x : Nat) : Int) := by
    show IntKind.i64.wrap ((BitVec.ofInt 64 (-(x : Int) - 1) &&& BitVec.ofInt 64 (4294967295 : Int)).toNat : Int) = _
    have e1 : (BitVec.ofInt 64 (-(x : Int) - 1)).toNat = 18446744073709551615 - x := by rw [BitVec.toNat_ofInt]; omega
    have e2 : (BitVec.ofInt 64 (4294967295 : Int)).toNat = 2 ^ 32 - 1 := by decide
    rw [BitVec.toNat_and, e1, e2, Nat.and_two_pow_sub_one_eq_mod, IntKind.wrap_i64]
    omega
  have HZ := Lib.hid hz; clear hz
  go_enter Try.func65, Try.ntmps65
  go_wp2
  go_ret
  exact ⟨ret_eq (by rw [← HZ.out]; rfl), rfl⟩
theorem i64_one (l : List Nat) : ∀ u ∈ l.map i64n, u.oneCell' = true := by
  intro u hu
  obtain ⟨b, _, rfl⟩ := List.mem_map.1 hu
  rfl
theorem shaKI_get (j : Nat) (hj : j < 64) : (shaK.map i64n)[j]? = some (.int .i64 ((shaK.getD j 0 : Nat) : Int)) := by
  have hl : j < shaK.length := by rw [shaK_length]; exact hj
  rw [List.getElem?_map, List.getElem?_eq_getElem hl]
  simp only [Option.map_some, List.getD_eq_getElem?_getD, List.getElem?_eq_getElem hl, Option.getD_some, i64n]
theorem own_addr {w : World} {base e size n : Nat} {v : Value} {xs : List Value} (h : w.ownsRow base e size v n xs) (hn : 0 < n) : ∃ g c, v = .slice (some ⟨g, 0, none⟩) n c ∧ base ≤ g := by
  rcases h.2 with ⟨_, h0⟩ | ⟨g, cap, cur, hv, hb, _⟩
  · omega
  · exact ⟨g, cap, hv, hb⟩
theorem Reads.at0 {w : World} {g n : Nat} {xs : List Value} (h : Reads w 1 (some ⟨g, 0, none⟩) n xs) (hn : 0 < n) (j : Nat) (u : Value) (hu : xs[j]? = some u) : w.cell? ⟨g, j, none⟩ = some u := by
  obtain ⟨ad, he, hc⟩ := h.2 hn
  injection he with he
  subst he
  have := hc j u hu
  rw [add_plain, Nat.zero_add] at this
  exact this
theorem toLI_get (v : V8) (j : Nat) (hj : j < 8) : (v.toL.map i64n)[j]? = some (.int .i64 ((v.toL.getD j 0 : Nat) : Int)) := by
  have : j = 0 ∨ j = 1 ∨ j = 2 ∨ j = 3 ∨ j = 4 ∨ j = 5 ∨ j = 6 ∨ j = 7 := by omega
  rcases this with rfl | rfl | rfl | rfl | rfl | rfl | rfl | rfl <;> rfl
theorem addT_snoc (h v : V8) (j : Nat) (hj : j < 8) : ((h.add v).toL.take j).map i64n ++ [i64n ((h.toL.getD j 0 + v.toL.getD j 0) % 4294967296)] = ((h.add v).toL.take (j + 1)).map i64n := by
  have : j = 0 ∨ j = 1 ∨ j = 2 ∨ j = 3 ∨ j = 4 ∨ j = 5 ∨ j = 6 ∨ j = 7 := by omega
  rcases this with rfl | rfl | rfl | rfl | rfl | rfl | rfl | rfl <;> rfl
theorem rdrew {w : World} {s n : Nat} {A : Option Addr} {xs : List Value} (h : Reads w s A n xs) : Reads w.drew s A n xs := h
theorem reads_grown {w w' : World} {g n : Nat} {r : Option Nat} {xs : List Value} (h : Reads w 1 (some ⟨g, 0, none⟩) n xs) (hn : 0 < n) (hg : w.grownBy w' r) (hne : r ≠ some g) : Reads w' 1 (some ⟨g, 0, none⟩) n xs :=
  ⟨h.1, fun _ => ⟨_, rfl, fun j u hu => by
    rw [add_plain, Nat.zero_add]
    have c := h.at0 hn j u hu
    exact (World.cell?_of_block (hg.block g (World.block_lt_of_cell? _ ⟨g, j, none⟩ c) (fun e => hne (by first | exact e | exact e.symm)))).trans c⟩⟩
theorem E_i64s : Elem Try.prog 62 3 (.int .i64 0) 1 8 := ⟨Try.underlying62, by kernel_rfl, rfl, by decide, by decide⟩
theorem blk_of_own {w : World} {base e g n : Nat} {xs : List Value} (h : w.ownsRow base e 1 (.slice (some ⟨g, 0, none⟩) n n) n xs) : Blk w g e xs.toArray := by
  obtain ⟨hl, h⟩ := h
  rcases h with ⟨h, _⟩ | ⟨g', cap, cur, hv, _, hb, _, _, hs, ht⟩
  · cases h
  · injection hv with ha _ hc
    injection ha with ha
    injection ha with ha
    subst ha hc
    rw [Nat.mul_one] at hs ht
    have : cur = xs.toArray := by
      rw [← ht, List.take_of_length_le (by simp [hs])]
    subst this
    exact hb
set_option maxRecDepth 100000 in
set_option maxHeartbeats 8000000 in
theorem sBlk_any (h : V8) (b : List UInt8) (w : World) (gA gK ca ck : Nat) (hh : h.ok) (hb : b.length = 64) (hA : Reads w 1 (some ⟨gA, 0, none⟩) 8 (h.toL.map i64n)) (hK : Reads w 1 (some ⟨gK, 0, none⟩) 64 (shaK.map i64n)) :
    Calls Try.prog 63 #[.slice (some ⟨gA, 0, none⟩) 8 ca, .string (bs b), .slice (some ⟨gK, 0, none⟩) 64 ck] w fun e w' => ∃ g' c', e = .returned (.slice (some ⟨g', 0, none⟩) 8 c') ∧ Reads w' 1 (some ⟨g', 0, none⟩) 8 ((blkV h b).toL.map i64n) ∧ Below w.heap.size w w' := by
  obtain ⟨R, hR⟩ : ∃ R, blkV h b = R := ⟨_, rfl⟩
  rw [hR]
  have HR0 := Lib.hid hR
  clear hR
  go_enter Try.func63, Try.ntmps63
  go_wp2_with (first
    | (at_make; refine wpList_mk E_i64s w rfl _ _ rfl w.heap.size .i64 .i64 64 64 64 rfl rfl (by omega) (by omega) (by omega) (Nat.le_refl _) ?_; intro w1 hown1 hgrow1)
    | fail)
  have hw1 : Blk w1 w.heap.size 3 ((List.replicate 64 0).map i64n).toArray := by
    have e : (madeCells (Value.int IntKind.i64 0).cells (64 * 1)).toList = (List.replicate 64 0).map i64n := by
      rw [Nat.mul_one]
      simp only [Value.cells, toList_madeCells_one, List.map_replicate]
      rfl
    rw [e] at hown1
    exact blk_of_own hown1
  have hbel1 : Below w.heap.size w w1 := (Below.refl _ _).grown hgrow1 (Nat.le_refl _) (by simp)
  clear hown1 hgrow1
  go_loopw [8] (fun i wr => ∃ k : Nat, k ≤ 16 ∧ i = .int .i64 (k : Int) ∧ Blk wr w.heap.size 3 ((schA b k).map i64n).toArray ∧ Below w.heap.size w wr) (fun i _ => 16 - (intOf i).toNat)
  case atStart => exact ⟨0, Nat.zero_le _, rfl, hw1, hbel1⟩
  case round =>
    clear hw1 hbel1
    obtain ⟨k, hk, rfl, h1, hbel⟩ := hrel
    by_cases hlt : k < 16
    · obtain ⟨z, hz⟩ := mapI_get0 (schA b k) k (by rw [schA_length b k (by omega)]; omega)
      have hc : wr.cell? ⟨w.heap.size, k, none⟩ = some (.int .i64 (z : Int)) := by rw [h1.cell, List.getElem?_toArray]; exact hz
      have hf := h1.frozen k
      clear hz
      have HE := Lib.hid (be4_i64 (b[4 * k]?.getD 0) (b[4 * k + 1]?.getD 0) (b[4 * k + 2]?.getD 0) (b[4 * k + 3]?.getD 0))
      go_wp2
      refine wp_region_x 32 [0, 1, 2, 3, 4, 5, 6, 7, 8, 9, 10, 11, 12, 13, 14, 15, 16, 17, 18, 19, 20, 21, 22, 23, 24, 25, 26, 27, 28, 29, 30, 31] (by kernel_rfl) (by kernel_rfl) ?_
      iterate 32 (refine wpX_quiet rfl (by kernel_rfl) rfl ?_; go_wp2; refine ⟨rfl, ?_⟩)
      refine wpX_nil ?_; try simp only [List.drop_succ_cons, List.drop_zero]
      go_wp2
      refine ⟨⟨k + 1, by omega, by go_num, ?_, hbel.drew.setCell (by first | (simp; done) | (simp; omega) | omega) _⟩, by simp only [intOf]; omega⟩
      rw [HE.out]
      have h4 := h1.set k (.int .i64 ((be4 b k : Nat) : Int))
      rw [List.setIfInBounds_toArray, schI_set b k _ (by omega) (by rw [schW, if_pos hlt])] at h4
      exact h4
    · have hd : decide ((k : Int) < 16) = false := by simp; omega
      replace h1 : Blk wr w.heap.size 3 ((schA b 16).map i64n).toArray := by
        have hk16 : k = 16 := by omega
        subst hk16
        exact h1
      obtain ⟨k0, hk0⟩ : ∃ k0 : Int, k0 = (k : Int) := ⟨_, rfl⟩
      rw [← hk0] at hd ⊢
      clear hk0 hk hlt
      go_wp2_with fail
      go_loopw [9] (fun i wr => ∃ k : Nat, 16 ≤ k ∧ k ≤ 64 ∧ i = .int .i64 (k : Int) ∧ Blk wr w.heap.size 3 ((schA b k).map i64n).toArray ∧ Below w.heap.size w wr) (fun i _ => 64 - (intOf i).toNat)
      case atStart => exact ⟨16, Nat.le_refl _, by omega, rfl, h1, hbel⟩
      case round =>
        clear h1 hbel
        obtain ⟨k, hk1, hk2, rfl, h1, hbel⟩ := hrel
        by_cases hlt : k < 64
        · obtain ⟨x15, e15⟩ : ∃ x, x = (sch b k).getD (k - 15) 0 := ⟨_, rfl⟩
          obtain ⟨x2, e2⟩ : ∃ x, x = (sch b k).getD (k - 2) 0 := ⟨_, rfl⟩
          obtain ⟨x16, e16⟩ : ∃ x, x = (sch b k).getD (k - 16) 0 := ⟨_, rfl⟩
          obtain ⟨x7, e7⟩ : ∃ x, x = (sch b k).getD (k - 7) 0 := ⟨_, rfl⟩
          have l15 : x15 < 4294967296 := e15 ▸ getD_lt (sch_lt b k) _
          have l2 : x2 < 4294967296 := e2 ▸ getD_lt (sch_lt b k) _
          have l16 : x16 < 4294967296 := e16 ▸ getD_lt (sch_lt b k) _
          have l7 : x7 < 4294967296 := e7 ▸ getD_lt (sch_lt b k) _
          have c15 : wr.cell? ⟨w.heap.size, k - 15, none⟩ = some (.int .i64 (x15 : Int)) := by rw [h1.cell, List.getElem?_toArray, e15]; exact schI_get b k (k - 15) (by omega) hk2
          have c2 : wr.cell? ⟨w.heap.size, k - 2, none⟩ = some (.int .i64 (x2 : Int)) := by rw [h1.cell, List.getElem?_toArray, e2]; exact schI_get b k (k - 2) (by omega) hk2
          have c16 : wr.cell? ⟨w.heap.size, k - 16, none⟩ = some (.int .i64 (x16 : Int)) := by rw [h1.cell, List.getElem?_toArray, e16]; exact schI_get b k (k - 16) (by omega) hk2
          have c7 : wr.cell? ⟨w.heap.size, k - 7, none⟩ = some (.int .i64 (x7 : Int)) := by rw [h1.cell, List.getElem?_toArray, e7]; exact schI_get b k (k - 7) (by omega) hk2
          have HW := Lib.hid (show schW b k (sch b k) = (x16 + sg0 x15 + x7 + sg1 x2) % 4294967296 by rw [schW, if_neg (by omega), e15, e2, e16, e7])
          clear e15 e2 e16 e7
          have b1 := i64_xor_nat (rr x15 7) (rr x15 18) (by have := rr_lt 7 l15; omega) (by have := rr_lt 18 l15; omega)
          have b2 : bits .xor .i64 ((rr x15 7 ^^^ rr x15 18 : Nat) : Int) ((x15 : Int) / 8) = ((sg0 x15 : Nat) : Int) := by
            rw [show (x15 : Int) / (8 : Int) = ((x15 >>> 3 : Nat) : Int) by rw [Nat.shiftRight_eq_div_pow]; omega]
            exact i64_xor_nat _ _ (by have := xor_lt (rr_lt 7 l15) (rr_lt 18 l15); omega) (by have := shr_lt 3 l15; omega)
          have b3 := i64_xor_nat (rr x2 17) (rr x2 19) (by have := rr_lt 17 l2; omega) (by have := rr_lt 19 l2; omega)
          have b4 : bits .xor .i64 ((rr x2 17 ^^^ rr x2 19 : Nat) : Int) ((x2 : Int) / 1024) = ((sg1 x2 : Nat) : Int) := by
            rw [show (x2 : Int) / (1024 : Int) = ((x2 >>> 10 : Nat) : Int) by rw [Nat.shiftRight_eq_div_pow]; omega]
            exact i64_xor_nat _ _ (by have := xor_lt (rr_lt 17 l2) (rr_lt 19 l2); omega) (by have := shr_lt 10 l2; omega)
          have ls0 := sg0_lt l15
          have ls1 := sg1_lt l2
          obtain ⟨z, hz⟩ := mapI_get0 (schA b k) k (by rw [schA_length b k (by omega)]; omega)
          have hc : wr.cell? ⟨w.heap.size, k, none⟩ = some (.int .i64 (z : Int)) := by rw [h1.cell, List.getElem?_toArray]; exact hz
          have hf := h1.frozen k
          clear hz
          go_wp2
          refine wp_region_x 21 [0, 1, 6, 7, 13, 14, 2, 8, 15, 3, 9, 16, 4, 10, 17, 18, 5, 11, 12, 19, 20] (by kernel_rfl) (by kernel_rfl) ?_
          iterate 6 (refine wpX_quiet rfl (by kernel_rfl) rfl ?_; go_wp2; refine ⟨rfl, ?_⟩)
          iterate 3 (refine wpX_quiet rfl (by kernel_rfl) rfl ?_; go_wp2; refine ⟨rfl, ?_⟩)
          iterate 3 (refine wpX_quiet rfl (by kernel_rfl) rfl ?_; go_wp2; refine ⟨rfl, ?_⟩)
          iterate 3 (refine wpX_quiet rfl (by kernel_rfl) rfl ?_; go_wp2; refine ⟨rfl, ?_⟩)
          iterate 1 (refine wpX_quiet rfl (by kernel_rfl) rfl ?_; go_wp2; refine ⟨rfl, ?_⟩)
          refine wpX_actor rfl (by kernel_rfl) ?_; go_wp2_with fail
          refine (l3r7 x15 _ l15).mono ?_; rintro e _ ⟨rfl, rfl⟩; go_wp2; refine ⟨Ext.refl _, ?_⟩
          refine wpX_actor rfl (by kernel_rfl) ?_; go_wp2_with fail
          refine (l3r18 x15 _ l15).mono ?_; rintro e _ ⟨rfl, rfl⟩; go_wp2; refine ⟨Ext.refl _, ?_⟩
          iterate 1 (refine wpX_quiet rfl (by kernel_rfl) rfl ?_; go_wp2; refine ⟨rfl, ?_⟩)
          iterate 1 (refine wpX_quiet rfl (by kernel_rfl) rfl ?_; go_wp2; refine ⟨rfl, ?_⟩)
          iterate 1 (refine wpX_quiet rfl (by kernel_rfl) rfl ?_; go_wp2; refine ⟨rfl, ?_⟩)
          refine wpX_nil ?_; try simp only [List.drop_succ_cons, List.drop_zero]
          go_wp2
          refine wp_region_x 21 [0, 1, 6, 7, 13, 14, 2, 8, 15, 3, 9, 16, 4, 10, 17, 18, 5, 11, 12, 19, 20] (by kernel_rfl) (by kernel_rfl) ?_
          iterate 6 (refine wpX_quiet rfl (by kernel_rfl) rfl ?_; go_wp2; refine ⟨rfl, ?_⟩)
          iterate 3 (refine wpX_quiet rfl (by kernel_rfl) rfl ?_; go_wp2; refine ⟨rfl, ?_⟩)
          iterate 3 (refine wpX_quiet rfl (by kernel_rfl) rfl ?_; go_wp2; refine ⟨rfl, ?_⟩)
          iterate 3 (refine wpX_quiet rfl (by kernel_rfl) rfl ?_; go_wp2; refine ⟨rfl, ?_⟩)
          iterate 1 (refine wpX_quiet rfl (by kernel_rfl) rfl ?_; go_wp2; refine ⟨rfl, ?_⟩)
          refine wpX_actor rfl (by kernel_rfl) ?_; go_wp2_with fail
          refine (l3r17 x2 _ l2).mono ?_; rintro e _ ⟨rfl, rfl⟩; go_wp2; refine ⟨Ext.refl _, ?_⟩
          refine wpX_actor rfl (by kernel_rfl) ?_; go_wp2_with fail
          refine (l3r19 x2 _ l2).mono ?_; rintro e _ ⟨rfl, rfl⟩; go_wp2; refine ⟨Ext.refl _, ?_⟩
          iterate 1 (refine wpX_quiet rfl (by kernel_rfl) rfl ?_; go_wp2; refine ⟨rfl, ?_⟩)
          iterate 1 (refine wpX_quiet rfl (by kernel_rfl) rfl ?_; go_wp2; refine ⟨rfl, ?_⟩)
          iterate 1 (refine wpX_quiet rfl (by kernel_rfl) rfl ?_; go_wp2; refine ⟨rfl, ?_⟩)
          refine wpX_nil ?_; try simp only [List.drop_succ_cons, List.drop_zero]
          go_wp2
          refine wp_region_x 19 [0, 1, 2, 3, 7, 9, 10, 15, 4, 11, 5, 12, 6, 13, 8, 14, 16, 17, 18] (by kernel_rfl) (by kernel_rfl) ?_
          iterate 8 (refine wpX_quiet rfl (by kernel_rfl) rfl ?_; go_wp2; refine ⟨rfl, ?_⟩)
          iterate 2 (refine wpX_quiet rfl (by kernel_rfl) rfl ?_; go_wp2; refine ⟨rfl, ?_⟩)
          iterate 2 (refine wpX_quiet rfl (by kernel_rfl) rfl ?_; go_wp2; refine ⟨rfl, ?_⟩)
          iterate 2 (refine wpX_quiet rfl (by kernel_rfl) rfl ?_; go_wp2; refine ⟨rfl, ?_⟩)
          iterate 1 (refine wpX_quiet rfl (by kernel_rfl) rfl ?_; go_wp2; refine ⟨rfl, ?_⟩)
          iterate 1 (refine wpX_quiet rfl (by kernel_rfl) rfl ?_; go_wp2; refine ⟨rfl, ?_⟩)
          iterate 1 (refine wpX_quiet rfl (by kernel_rfl) rfl ?_; go_wp2; refine ⟨rfl, ?_⟩)
          refine wpX_actor rfl (by kernel_rfl) ?_; go_wp2_with fail
          refine (l3wordI _ (x16 + sg0 x15 + x7 + sg1 x2) _ (by omega) (by omega)).mono ?_; rintro e _ ⟨rfl, rfl⟩; go_wp2; refine ⟨Ext.refl _, ?_⟩
          iterate 1 (refine wpX_quiet rfl (by kernel_rfl) rfl ?_; go_wp2; refine ⟨rfl, ?_⟩)
          refine wpX_nil ?_; try simp only [List.drop_succ_cons, List.drop_zero]
          go_wp2
          refine ⟨⟨k + 1, by omega, by omega, by go_num, ?_, hbel.drew.drew.drew.setCell (by first | (simp; done) | (simp; omega) | omega) _⟩, by simp only [intOf]; omega⟩
          have h4 := h1.set k (.int .i64 ((schW b k (sch b k) : Nat) : Int))
          rw [List.setIfInBounds_toArray, schI_set b k _ hlt rfl] at h4
          rw [show ((x16 : Int) + (sg0 x15 : Int) + (x7 : Int) + (sg1 x2 : Int)) % (4294967296 : Int) = ((schW b k (sch b k) : Nat) : Int) by rw [HW.out]; omega]
          exact h4
        · have hd2 : decide ((k : Int) < 64) = false := by simp; omega
          replace h1 : Blk wr w.heap.size 3 ((schA b 64).map i64n).toArray := by
            have hk64 : k = 64 := by omega
            subst hk64
            exact h1
          obtain ⟨k1, hk0⟩ : ∃ k1 : Int, k1 = (k : Int) := ⟨_, rfl⟩
          rw [← hk0] at hd2 ⊢
          clear hk0 hk1 hk2 hlt
          have hlt2 : w.heap.size < wr.heap.size := h1.lt
          have HO0 := Lib.hid (World.ownsRow_made (base := w.heap.size) (size := 1) (e := 3) wr #[] 0 (by omega) (by simp [maxLen]) rfl)
          have HA0 := Lib.hid (hA.below (hbel.alloc (Nat.le_of_lt hlt2) (.cells #[] 3)))
          go_wp2_with (first
            | (at_builtin; go_must (refine wpList_app E_i64s _ rfl (.tmp 120) (.tmp 121) rfl w.heap.size _ 0 [] rfl HO0.out _ _ _ (h.toL.map i64n) rfl HA0.out (i64_one _) (by omega) (by simp; omega) ?_; intro vv w2 hown hg hat; rw [Nat.zero_add, List.nil_append] at hown; obtain ⟨gv, cv, rfl, hq⟩ := own_addr hown (by omega)))
            | fail)
          have g1 : Blk w2 w.heap.size 3 ((schA b 64).map i64n).toArray := (h1.alloc _).grown hg (by simp; omega)
          have hbel2 : Below w.heap.size w w2 := Below.grown (hbel.alloc (by omega) _) hg (by simp; omega) (fun k hk => by injection hk with hk; simp at hk; omega)
          have hR := Reads.of_own hown
          clear hq hown hat hg HO0 HA0 h1 hbel
          go_loopw [12, 13] (fun v i wr => ∃ (k gv cv : Nat), k ≤ 64 ∧ i = .int .i64 (k : Int) ∧ v = .slice (some ⟨gv, 0, none⟩) 8 cv ∧ Reads wr 1 (some ⟨gv, 0, none⟩) 8 ((rnds shaK (sch b 64) h k).toL.map i64n) ∧ Blk wr w.heap.size 3 ((schA b 64).map i64n).toArray ∧ Below w.heap.size w wr) (fun _ i _ => 64 - (intOf i).toNat)
          case atStart => exact ⟨0, gv, cv, by omega, rfl, rfl, hR, g1, hbel2⟩
          case round =>
            clear g1 hR hbel2
            obtain ⟨k, gv, cv, hk, rfl, rfl, hR, h1, hbel⟩ := hrel
            by_cases hlt : k < 64
            · obtain ⟨V, hV⟩ : ∃ V, V = rnds shaK (sch b 64) h k := ⟨_, rfl⟩
              rw [← hV] at hR
              have HV := Lib.hid (show rnds shaK (sch b 64) h (k + 1) = rnd V (shaK.getD k 0) ((sch b 64).getD k 0) by rw [rnds, hV])
              have hok : V.ok := hV ▸ rnds_ok _ _ hh k
              clear hV
              obtain ⟨ra, rb, rc, rd, re, rf, rg, rh⟩ := V
              obtain ⟨la, lb, lc, ld, le, lf, lg, lh⟩ := hok
              have cw : wr.cell? ⟨w.heap.size, k, none⟩ = some (.int .i64 (((sch b 64).getD k 0 : Nat) : Int)) := by rw [h1.cell, List.getElem?_toArray]; exact schI_get b 64 k hlt (Nat.le_refl _)
              have ck : wr.cell? ⟨gK, k, none⟩ = some (.int .i64 ((shaK.getD k 0 : Nat) : Int)) := (hK.below hbel).at0 (by omega) k _ (shaKI_get k hlt)
              have lw := getD_lt (sch_lt b 64) k
              have lk := getD_lt shaK_lt k
              generalize (sch b 64).getD k 0 = xw at HV cw lw
              generalize shaK.getD k 0 = xk at HV ck lk
              have ca : wr.cell? ⟨gv, 0, none⟩ = some (.int .i64 (ra : Int)) := hR.at0 (by omega) 0 _ rfl
              have cb : wr.cell? ⟨gv, 1, none⟩ = some (.int .i64 (rb : Int)) := hR.at0 (by omega) 1 _ rfl
              have cc : wr.cell? ⟨gv, 2, none⟩ = some (.int .i64 (rc : Int)) := hR.at0 (by omega) 2 _ rfl
              have cd : wr.cell? ⟨gv, 3, none⟩ = some (.int .i64 (rd : Int)) := hR.at0 (by omega) 3 _ rfl
              have ce : wr.cell? ⟨gv, 4, none⟩ = some (.int .i64 (re : Int)) := hR.at0 (by omega) 4 _ rfl
              have cf : wr.cell? ⟨gv, 5, none⟩ = some (.int .i64 (rf : Int)) := hR.at0 (by omega) 5 _ rfl
              have cg : wr.cell? ⟨gv, 6, none⟩ = some (.int .i64 (rg : Int)) := hR.at0 (by omega) 6 _ rfl
              have ch : wr.cell? ⟨gv, 7, none⟩ = some (.int .i64 (rh : Int)) := hR.at0 (by omega) 7 _ rfl
              simp only at la lb lc ld le lf lg lh
              have b1 := i64_xor_nat (rr re 6) (rr re 11) (by have := rr_lt 6 le; omega) (by have := rr_lt 11 le; omega)
              have b2 : bits .xor .i64 ((rr re 6 ^^^ rr re 11 : Nat) : Int) ((rr re 25 : Nat) : Int) = ((bg1 re : Nat) : Int) := i64_xor_nat _ _ (by have := xor_lt (rr_lt 6 le) (rr_lt 11 le); omega) (by have := rr_lt 25 le; omega)
              have b3 := i64_xor_nat (rr ra 2) (rr ra 13) (by have := rr_lt 2 la; omega) (by have := rr_lt 13 la; omega)
              have b4 : bits .xor .i64 ((rr ra 2 ^^^ rr ra 13 : Nat) : Int) ((rr ra 22 : Nat) : Int) = ((bg0 ra : Nat) : Int) := i64_xor_nat _ _ (by have := xor_lt (rr_lt 2 la) (rr_lt 13 la); omega) (by have := rr_lt 22 la; omega)
              have b5 := i64_and_nat re rf (by omega) (by omega)
              have b6 := i64_and_nat (4294967295 - re) rg (by omega) (by omega)
              have b7 : bits .xor .i64 ((re &&& rf : Nat) : Int) (((4294967295 - re) &&& rg : Nat) : Int) = ((chf re rf rg : Nat) : Int) := i64_xor_nat _ _ (by have := and_ltL (b := rf) le; omega) (by have := and_ltL (a := 4294967295 - re) (b := rg) (by omega); omega)
              have b8 := i64_and_nat ra rb (by omega) (by omega)
              have b9 := i64_and_nat ra rc (by omega) (by omega)
              have b10 := i64_and_nat rb rc (by omega) (by omega)
              have b11 := i64_xor_nat (ra &&& rb) (ra &&& rc) (by have := and_ltL (b := rb) la; omega) (by have := and_ltL (b := rc) la; omega)
              have b12 : bits .xor .i64 (((ra &&& rb) ^^^ (ra &&& rc) : Nat) : Int) ((rb &&& rc : Nat) : Int) = ((mjf ra rb rc : Nat) : Int) := i64_xor_nat _ _ (by have := xor_lt (and_ltL (b := rb) la) (and_ltL (b := rc) la); omega) (by have := and_ltL (b := rc) lb; omega)
              have hsi : IntKind.i64.signed = true := rfl
              have l1 := bg1_lt le
              have l2 := bg0_lt la
              have l3 := chf_lt (f := rf) (g := rg) le
              have l4 := mjf_lt (c := rc) la lb
              go_wp2
              refine wp_region_x 37 [0, 3, 5, 8, 12, 13, 17, 20, 26, 27, 31, 32, 1, 14, 18, 21, 28, 33, 2, 15, 22, 29, 34, 16, 4, 6, 7, 9, 10, 11, 19, 23, 24, 25, 30, 35, 36] (by kernel_rfl) (by kernel_rfl) ?_
              iterate 12 (refine wpX_quiet rfl (by kernel_rfl) rfl ?_; go_wp2; refine ⟨rfl, ?_⟩)
              iterate 6 (refine wpX_quiet rfl (by kernel_rfl) rfl ?_; go_wp2; refine ⟨rfl, ?_⟩)
              iterate 5 (refine wpX_quiet rfl (by kernel_rfl) rfl ?_; go_wp2; refine ⟨rfl, ?_⟩)
              iterate 1 (refine wpX_quiet rfl (by kernel_rfl) rfl ?_; go_wp2; refine ⟨rfl, ?_⟩)
              refine wpX_actor rfl (by kernel_rfl) ?_; go_wp2_with fail
              refine (l3r6 re _ le).mono ?_; rintro e _ ⟨rfl, rfl⟩; go_wp2; refine ⟨Ext.refl _, ?_⟩
              refine wpX_actor rfl (by kernel_rfl) ?_; go_wp2_with fail
              refine (l3r11 re _ le).mono ?_; rintro e _ ⟨rfl, rfl⟩; go_wp2; refine ⟨Ext.refl _, ?_⟩
              iterate 1 (refine wpX_quiet rfl (by kernel_rfl) rfl ?_; go_wp2; refine ⟨rfl, ?_⟩)
              refine wpX_actor rfl (by kernel_rfl) ?_; go_wp2_with fail
              refine (l3r25 re _ le).mono ?_; rintro e _ ⟨rfl, rfl⟩; go_wp2; refine ⟨Ext.refl _, ?_⟩
              iterate 1 (refine wpX_quiet rfl (by kernel_rfl) rfl ?_; go_wp2; refine ⟨rfl, ?_⟩)
              iterate 1 (refine wpX_quiet rfl (by kernel_rfl) rfl ?_; go_wp2; refine ⟨rfl, ?_⟩)
              refine wpX_actor rfl (by kernel_rfl) ?_; go_wp2_with fail
              refine (l3wordN _ re _ (by first | rfl | (rw [i64_not re le]; omega)) le).mono ?_; rintro e _ ⟨rfl, rfl⟩; go_wp2; refine ⟨Ext.refl _, ?_⟩
              iterate 1 (refine wpX_quiet rfl (by kernel_rfl) rfl ?_; go_wp2; refine ⟨rfl, ?_⟩)
              iterate 1 (refine wpX_quiet rfl (by kernel_rfl) rfl ?_; go_wp2; refine ⟨rfl, ?_⟩)
              iterate 1 (refine wpX_quiet rfl (by kernel_rfl) rfl ?_; go_wp2; refine ⟨rfl, ?_⟩)
              iterate 1 (refine wpX_quiet rfl (by kernel_rfl) rfl ?_; go_wp2; refine ⟨rfl, ?_⟩)
              iterate 1 (refine wpX_quiet rfl (by kernel_rfl) rfl ?_; go_wp2; refine ⟨rfl, ?_⟩)
              iterate 1 (refine wpX_quiet rfl (by kernel_rfl) rfl ?_; go_wp2; refine ⟨rfl, ?_⟩)
              refine wpX_nil ?_; try simp only [List.drop_succ_cons, List.drop_zero]
              go_wp2
              refine wp_region_x 29 [0, 2, 5, 8, 9, 13, 14, 19, 22, 10, 15, 20, 23, 11, 16, 21, 24, 12, 17, 25, 18, 26, 1, 3, 4, 6, 7, 27, 28] (by kernel_rfl) (by kernel_rfl) ?_
              iterate 9 (refine wpX_quiet rfl (by kernel_rfl) rfl ?_; go_wp2; refine ⟨rfl, ?_⟩)
              iterate 4 (refine wpX_quiet rfl (by kernel_rfl) rfl ?_; go_wp2; refine ⟨rfl, ?_⟩)
              iterate 4 (refine wpX_quiet rfl (by kernel_rfl) rfl ?_; go_wp2; refine ⟨rfl, ?_⟩)
              iterate 3 (refine wpX_quiet rfl (by kernel_rfl) rfl ?_; go_wp2; refine ⟨rfl, ?_⟩)
              iterate 1 (refine wpX_quiet rfl (by kernel_rfl) rfl ?_; go_wp2; refine ⟨rfl, ?_⟩)
              iterate 1 (refine wpX_quiet rfl (by kernel_rfl) rfl ?_; go_wp2; refine ⟨rfl, ?_⟩)
              refine wpX_actor rfl (by kernel_rfl) ?_; go_wp2_with fail
              refine (l3r2 ra _ la).mono ?_; rintro e _ ⟨rfl, rfl⟩; go_wp2; refine ⟨Ext.refl _, ?_⟩
              refine wpX_actor rfl (by kernel_rfl) ?_; go_wp2_with fail
              refine (l3r13 ra _ la).mono ?_; rintro e _ ⟨rfl, rfl⟩; go_wp2; refine ⟨Ext.refl _, ?_⟩
              iterate 1 (refine wpX_quiet rfl (by kernel_rfl) rfl ?_; go_wp2; refine ⟨rfl, ?_⟩)
              refine wpX_actor rfl (by kernel_rfl) ?_; go_wp2_with fail
              refine (l3r22 ra _ la).mono ?_; rintro e _ ⟨rfl, rfl⟩; go_wp2; refine ⟨Ext.refl _, ?_⟩
              iterate 1 (refine wpX_quiet rfl (by kernel_rfl) rfl ?_; go_wp2; refine ⟨rfl, ?_⟩)
              iterate 1 (refine wpX_quiet rfl (by kernel_rfl) rfl ?_; go_wp2; refine ⟨rfl, ?_⟩)
              iterate 1 (refine wpX_quiet rfl (by kernel_rfl) rfl ?_; go_wp2; refine ⟨rfl, ?_⟩)
              refine wpX_nil ?_; try simp only [List.drop_succ_cons, List.drop_zero]
              go_wp2
              refine wp_region_x 28 [0, 1, 4, 7, 10, 13, 16, 19, 22, 25, 2, 5, 8, 11, 14, 20, 23, 26, 6, 9, 12, 15, 21, 24, 27, 17, 3, 18] (by kernel_rfl) (by kernel_rfl) ?_
              iterate 10 (refine wpX_quiet rfl (by kernel_rfl) rfl ?_; go_wp2; refine ⟨rfl, ?_⟩)
              iterate 8 (refine wpX_quiet rfl (by kernel_rfl) rfl ?_; go_wp2; refine ⟨rfl, ?_⟩)
              iterate 7 (refine wpX_quiet rfl (by kernel_rfl) rfl ?_; go_wp2; refine ⟨rfl, ?_⟩)
              iterate 1 (refine wpX_quiet rfl (by kernel_rfl) rfl ?_; go_wp2; refine ⟨rfl, ?_⟩)
              refine wpX_actor rfl (by kernel_rfl) ?_; go_wp2_with fail
              refine (l3wordI _ (rh + bg1 re + chf re rf rg + xk + xw + (bg0 ra + mjf ra rb rc)) _ (by omega) (by omega)).mono ?_; rintro e _ ⟨rfl, rfl⟩; go_wp2; refine ⟨Ext.refl _, ?_⟩
              refine wpX_actor rfl (by kernel_rfl) ?_; go_wp2_with fail
              refine (l3wordI _ (rd + (rh + bg1 re + chf re rf rg + xk + xw)) _ (by omega) (by omega)).mono ?_; rintro e _ ⟨rfl, rfl⟩; go_wp2; refine ⟨Ext.refl _, ?_⟩
              refine wpX_nil ?_; try simp only [List.drop_succ_cons, List.drop_zero]
              go_wp2
              refine ⟨⟨k + 1, wr.heap.size, 8, by omega, by go_num, rfl, ?_, (h1.alloc _).drew.drew.drew, (hbel.alloc hbel.size _).drew.drew.drew⟩, by simp only [intOf]; omega⟩
              rw [HV.out]
              have e1 : ((rh : Int) + (bg1 re : Int) + (chf re rf rg : Int) + (xk : Int) + (xw : Int) + ((bg0 ra : Int) + (mjf ra rb rc : Int))) % (4294967296 : Int) = (((rT ⟨ra, rb, rc, rd, re, rf, rg, rh⟩ xk xw + rU ⟨ra, rb, rc, rd, re, rf, rg, rh⟩) % 4294967296 : Nat) : Int) := by
                simp only [rT, rU]; omega
              have e2 : ((rd : Int) + ((rh : Int) + (bg1 re : Int) + (chf re rf rg : Int) + (xk : Int) + (xw : Int))) % (4294967296 : Int) = (((rd + rT ⟨ra, rb, rc, rd, re, rf, rg, rh⟩ xk xw) % 4294967296 : Nat) : Int) := by
                simp only [rT]; omega
              rw [e1, e2]
              exact rdrew (rdrew (rdrew (Reads.new (e := 3) rfl)))
            · have hd3 : decide ((k : Int) < 64) = false := by simp; omega
              replace hR : Reads wr 1 (some ⟨gv, 0, none⟩) 8 ((rnds shaK (sch b 64) h 64).toL.map i64n) := by
                have hk64 : k = 64 := by omega
                subst hk64
                exact hR
              obtain ⟨k2, hk0⟩ : ∃ k2 : Int, k2 = (k : Int) := ⟨_, rfl⟩
              rw [← hk0] at hd3 ⊢
              clear hk0 hk hlt h1
              have HR := Lib.hid (show R = h.add (rnds shaK (sch b 64) h 64) from HR0.out.symm)
              have hVok : (rnds shaK (sch b 64) h 64).ok := rnds_ok _ _ hh 64
              generalize rnds shaK (sch b 64) h 64 = V at hR HR hVok
              have hgv : gv < wr.heap.size := World.block_lt_of_cell? wr ⟨gv, 0, none⟩ (hR.at0 (by omega) 0 _ rfl)
              go_wp2_with fail
              go_loopw [18, 19] (fun v i wr => ∃ j : Nat, j ≤ 8 ∧ i = .int .i64 (j : Int) ∧ wr.ownsRow w.heap.size 3 1 v j (((h.add V).toL.take j).map i64n) ∧ v.ownBlock ≠ some gv ∧ Reads wr 1 (some ⟨gv, 0, none⟩) 8 (V.toL.map i64n) ∧ Below w.heap.size w wr) (fun _ i _ => 8 - (intOf i).toNat)
              case atStart => exact ⟨0, by omega, rfl, World.ownsRow_made wr #[] 0 hbel.size (by simp [maxLen]) rfl, by simp [Value.ownBlock]; omega, hR.below ((Below.refl _ _).alloc (Nat.le_refl _) _), hbel.alloc hbel.size _⟩
              case round =>
                clear hR hbel hgv
                obtain ⟨j, hj, rfl, hown, hne, hR, hbel⟩ := hrel
                have hgv : gv < wr.heap.size := World.block_lt_of_cell? wr ⟨gv, 0, none⟩ (hR.at0 (by omega) 0 _ rfl)
                by_cases hlt : j < 8
                · have ca : wr.cell? ⟨gA, j, none⟩ = some (.int .i64 ((h.toL.getD j 0 : Nat) : Int)) := (hA.below hbel).at0 (by omega) j _ (toLI_get h j hlt)
                  have cb : wr.cell? ⟨gv, j, none⟩ = some (.int .i64 ((V.toL.getD j 0 : Nat) : Int)) := hR.at0 (by omega) j _ (toLI_get V j hlt)
                  have l1 := toL_lt hh j
                  have l2 := toL_lt hVok j
                  have HS := Lib.hid (addT_snoc h V j hlt)
                  generalize h.toL.getD j 0 = xa at ca l1 HS
                  generalize V.toL.getD j 0 = xb at cb l2 HS
                  have HO := Lib.hid hown; clear hown
                  go_wp2
                  refine wp_region_x 12 [0, 1, 2, 5, 6, 3, 7, 4, 8, 9, 10, 11] (by kernel_rfl) (by kernel_rfl) ?_
                  iterate 5 (refine wpX_quiet rfl (by kernel_rfl) rfl ?_; go_wp2; refine ⟨rfl, ?_⟩)
                  iterate 2 (refine wpX_quiet rfl (by kernel_rfl) rfl ?_; go_wp2; refine ⟨rfl, ?_⟩)
                  iterate 2 (refine wpX_quiet rfl (by kernel_rfl) rfl ?_; go_wp2; refine ⟨rfl, ?_⟩)
                  iterate 1 (refine wpX_quiet rfl (by kernel_rfl) rfl ?_; go_wp2; refine ⟨rfl, ?_⟩)
                  refine wpX_actor rfl (by kernel_rfl) ?_; go_wp2_with fail
                  refine (l3wordI _ (xa + xb) _ (by omega) (by omega)).mono ?_; rintro e _ ⟨rfl, rfl⟩; go_wp2; refine ⟨Ext.refl _, ?_⟩
                  refine wpX_actor rfl (by kernel_rfl) ?_; go_wp2; refine ⟨Ext.alloc (Ext.refl _) _, ?_⟩
                  refine wpX_nil ?_; try simp only [List.drop_succ_cons, List.drop_zero]
                  go_wp2_with (first
                    | (at_builtin; go_must (refine wpList_app E_i64s _ rfl (.tmp 231) (.tmp 242) rfl w.heap.size _ j _ rfl (by first | exact (HO.out.alloc _).drew | exact HO.out.drew.alloc _) _ _ _ [.int .i64 (((xa : Int) + (xb : Int)) % 4294967296)] rfl (by first | exact rdrew (Reads.new (e := 3) rfl) | exact Reads.new (e := 3) rfl) (by intro u hu; rw [List.mem_singleton.1 hu]; rfl) (by omega) (Nat.le_trans hbel.size (by simp)) ?_; intro v' w2 hown2 hg2 hat2))
                    | fail)
                  refine ⟨⟨j + 1, by omega, by go_num, ?_, ?_, reads_grown (rdrew (hR.below ((Below.refl _ _).alloc (Nat.le_refl _) _))) (by omega) hg2 hne, Below.grown (hbel.alloc hbel.size _).drew hg2 (Nat.le_trans hbel.size (by simp)) (fun g hg => (HO.out.lt g hg).1)⟩, by simp only [intOf]; omega⟩
                  · rw [show ((xa : Int) + (xb : Int)) % (4294967296 : Int) = (((xa + xb) % 4294967296 : Nat) : Int) by omega] at hown2
                    rw [← HS.out]
                    exact hown2
                  · rcases hat2 with h2 | h2
                    · rw [h2]; exact hne
                    · rw [h2]; intro e; injection e with e; simp at e; omega
                · have hj8 : j = 8 := by omega
                  subst hj8
                  obtain ⟨g', c', rfl, _⟩ := own_addr hown (by omega)
                  go_wp2
                  go_ret
                  refine ⟨g', c', ret_eq rfl, ?_, hbel⟩
                  rw [HR.out]
                  exact Reads.of_own hown
end Go.Proofs.Ytinacpjelephoaa
