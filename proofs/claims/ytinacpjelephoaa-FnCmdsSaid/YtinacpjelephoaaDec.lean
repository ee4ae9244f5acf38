/-
  Dec (impl and spec) as the plain function decL. Conditions: the argument is an int.
-/
import Derived.Test.YtinacpjelephoaaNumB
namespace Go.Proofs.Ytinacpjelephoaa
open Go.RowKit

def dB (k : Nat) : UInt8 := UInt8.ofNat (48 + k)
theorem dB_toNat {k : Nat} (h : k < 10) : (dB k).toNat = 48 + k := by
  unfold dB
  rw [UInt8.toNat_ofNat']
  omega
def decN (m : Nat) : List UInt8 := if m = 0 then [] else decN (m / 10) ++ [dB (m % 10)]
termination_by m
decreasing_by omega
theorem decN_zero : decN 0 = [] := by rw [decN]; rfl
theorem decN_pos {m : Nat} (h : 0 < m) : decN m = decN (m / 10) ++ [dB (m % 10)] := by rw [decN, if_neg (by omega)]
theorem decN_length : ∀ (k m : Nat), m < 10 ^ k → (decN m).length ≤ k
  | 0, m, h => by
    have : m = 0 := by simpa using h
    rw [this, decN_zero]; simp
  | k + 1, m, h => by
    rcases Nat.eq_zero_or_pos m with rfl | hp
    · rw [decN_zero]; simp
    · rw [decN_pos hp, List.length_append]
      have := decN_length k (m / 10) (by rw [Nat.pow_succ] at h; omega)
      simp only [List.length_cons, List.length_nil]
      omega
theorem decN_19 {m : Nat} (h : m ≤ 9223372036854775808) : (decN m).length ≤ 19 := decN_length 19 m (by omega)
def decL (n : Int) : List UInt8 := if n = 0 then [48] else if n < 0 then 45 :: decN n.natAbs else decN n.natAbs
theorem decL_zero : decL 0 = [48] := rfl
theorem decL_pos {m : Nat} (h : 0 < m) : decL (m : Int) = decN m := by rw [decL, if_neg (by omega), if_neg (by omega)]; rfl
theorem decL_neg {m : Nat} (h : 0 < m) : decL (-(m : Int)) = 45 :: decN m := by rw [decL, if_neg (by omega), if_pos (by omega), Int.natAbs_neg]; rfl
theorem decL_length {n : Int} (h : i64ok n) : (decL n).length ≤ 20 := by
  unfold decL
  obtain ⟨h1, h2⟩ := h
  have := decN_19 (m := n.natAbs) (by omega)
  split
  · simp
  · split
    · simp only [List.length_cons]; omega
    · omega
theorem tmod_neg (m : Nat) : Int.tmod (-(m : Int)) 10 = -((m % 10 : Nat) : Int) := by rw [Int.neg_tmod]; rfl
theorem tdiv_neg (m : Nat) : Int.tdiv (-(m : Int)) 10 = -((m / 10 : Nat) : Int) := by rw [Int.neg_tdiv]; rfl
/-- the row after the first i swaps of L -/
def Swapped (L X : List UInt8) (i : Nat) : Prop := X.length = L.length ∧ ∀ k, k < L.length → X.getD k 0 = if k < i ∨ L.length - i ≤ k then L.getD (L.length - 1 - k) 0 else L.getD k 0
theorem Swapped.start (L : List UInt8) : Swapped L L 0 := ⟨rfl, fun k hk => by rw [if_neg (by omega)]⟩
theorem getD_set (l : List UInt8) (i k : Nat) (v : UInt8) (hi : i < l.length) : (l.set i v).getD k 0 = if k = i then v else l.getD k 0 := by
  rw [List.getD_eq_getElem?_getD, List.getD_eq_getElem?_getD, List.getElem?_set]
  by_cases h : i = k
  · subst h
    simp [hi]
  · rw [if_neg h, if_neg (by omega)]
theorem Swapped.step {L X : List UInt8} {i : Nat} (h : Swapped L X i) (hi : i + 1 < L.length - i) : Swapped L ((X.set i (X.getD (L.length - 1 - i) 0)).set (L.length - 1 - i) (X.getD i 0)) (i + 1) := by
  obtain ⟨h1, h2⟩ := h
  refine ⟨by simp [h1], fun k hk => ?_⟩
  rw [getD_set _ _ _ _ (by rw [List.length_set, h1]; omega), getD_set _ _ _ _ (by rw [h1]; omega)]
  by_cases hk1 : k = L.length - 1 - i
  · rw [if_pos hk1, h2 i (by omega), if_neg (by omega), if_pos (by omega)]
    congr 1
    omega
  · rw [if_neg hk1]
    by_cases hk2 : k = i
    · rw [if_pos hk2, h2 _ (by omega), if_neg (by omega), if_pos (by omega)]
      congr 1
      omega
    · rw [if_neg hk2, h2 k hk]
      by_cases hk3 : k < i ∨ L.length - i ≤ k
      · rw [if_pos hk3, if_pos (by omega)]
      · rw [if_neg hk3, if_neg (by omega)]
theorem Swapped.done {L X : List UInt8} {i : Nat} (h : Swapped L X i) (hi : L.length ≤ i + i + 1) : X = L.reverse := by
  obtain ⟨h1, h2⟩ := h
  refine List.ext_getElem (by simp [h1]) fun k hk hk' => ?_
  have hkL : k < L.length := by omega
  have e1 : X.getD k 0 = X[k] := by rw [List.getD_eq_getElem?_getD, List.getElem?_eq_getElem hk]; rfl
  have e2 : L.getD (L.length - 1 - k) 0 = L[L.length - 1 - k] := by rw [List.getD_eq_getElem?_getD, List.getElem?_eq_getElem (by omega)]; rfl
  rw [← e1, h2 k hkL, List.getElem_reverse, ← e2]
  split
  · rfl
  · congr 1
    omega
theorem set_u8v (X : List UInt8) (i : Nat) (b : UInt8) : (X.map u8v).set i (u8v b) = (X.set i b).map u8v := by rw [List.map_set]
theorem own_lit1' {w : World} {e : TypeId} {x : Int} (b : UInt8) (hx : x = (b.toNat : Int)) : (w.alloc (.cells #[.int .u8 x] e)).ownsRow 0 e 1 (.slice (some ⟨w.heap.size, 0, none⟩) 1 1) 1 ([b].map u8v) := by
  subst hx
  exact World.ownsRow_lit w #[u8v b] 1 (Nat.zero_le _) (by simp [maxLen]) rfl
theorem own_form' {w : World} {base : Nat} {e : TypeId} {size : Nat} {v : Value} {n : Nat} {xs : List Value} (h : w.ownsRow base e size v n xs) (hn : 0 < n) : ∃ g c, v = .slice (some ⟨g, 0, none⟩) n c ∧ base ≤ g ∧ g < w.heap.size := by
  rcases h.2 with ⟨_, h0⟩ | ⟨g, cap, cur, hv, hb, hg, _⟩
  · omega
  · exact ⟨g, cap, hv, hb, (Array.getElem?_eq_some_iff.1 hg).1⟩
attribute [local irreducible] decL dB























































































set_option maxRecDepth 100000 in
set_option maxHeartbeats 1000000 in
theorem idecPos (M : Nat) (hM0 : 0 < M) (hM : M ≤ 9223372036854775807) (n : Int) (hn : n = (M : Int)) (w : World) :
    Calls Try.prog 13 #[.int .i64 n] w fun e w' => e = .returned (.string (bs (decL ((M : Int))))) ∧ Below w.heap.size w w' := by
  rw [decL_pos hM0]
  have hn0 : (n == 0) = false := by simp only [beq_eq_false_iff_ne]; omega
  have hns : decide (n < 0) = false := by simp only [decide_eq_false_iff_not]; omega
  have hlen := decN_19 (m := M) (by omega)
  have HN := Lib.hid hn; clear hn
  go_enter Try.func13, Try.ntmps13
  go_wp2
  go_loopw [3, 4] (fun v nn wr => ∃ (m : Nat) (acc : List UInt8) (x : Int), m ≤ 9223372036854775807 ∧ nn = .int .i64 x ∧ x = (m : Int) ∧ acc ++ (decN m).reverse = (decN M).reverse ∧ wr.ownsRow w.heap.size 5 1 v acc.length (acc.map u8v) ∧ Below w.heap.size w wr) (fun _ nn _ => (intOf nn).natAbs)
  case atStart =>
    exact ⟨M, [], n, hM, rfl, HN.out, rfl, World.ownsRow_made w #[] 0 (Nat.le_refl _) (by simp [maxLen]) rfl, (Below.refl _ _).alloc (Nat.le_refl _) _⟩
  case round =>
    obtain ⟨m, acc, x, hm, rfl, hx, hacc, hown, hbel⟩ := hrel
    have hal : acc.length + (decN m).length = (decN M).length := by have := congrArg List.length hacc; simpa using this
    have H1 := Lib.hid hown; clear hown
    have H2 := Lib.hid hbel; clear hbel
    rcases Nat.eq_zero_or_pos m with rfl | hp
    · have hx0 : x = 0 := by rw [hx]; rfl
      subst hx0
      clear hx
      rw [decN_zero, List.reverse_nil, List.append_nil] at hacc
      rw [decN_zero, List.length_nil, Nat.add_zero] at hal
      obtain ⟨L, hL⟩ : ∃ L, L = acc := ⟨_, rfl⟩
      have hLr : L.reverse = decN M := by rw [hL, hacc]; simp
      have hLn : L.length ≤ 20 := by rw [hL]; omega
      have hL1 : 1 ≤ L.length := by rw [hL]; have := decN_pos hM0; rw [this, List.length_append] at hal; simp at hal; omega
      have hal2 : acc.length ≤ 19 := by omega
      have HL := Lib.hid hL; clear hal hL hacc
      have hLown : wr.ownsRow w.heap.size 5 1 u3 L.length (L.map u8v) := by rw [HL.out]; exact H1.out
      have hLbel : Below w.heap.size w wr := H2.out
      have H3 := Lib.hid hLr; clear hLr
      have H5 := Lib.hid hLbel; clear hLbel
      obtain ⟨g, cp, hform, hg1, hg2⟩ := own_form' hLown hL1
      subst hform
      have H4 := Lib.hid hLown; clear hLown
      go_wp2
      go_loopw [6, 7] (fun ii jj wr2 => ∃ (i J : Nat) (X : List UInt8), J + i + 1 = L.length ∧ i + i ≤ L.length ∧ ii = .int .i64 (i : Int) ∧ jj = .int .i64 (J : Int) ∧ Swapped L X i ∧ wr2.ownsRow w.heap.size 5 1 (.slice (some ⟨g, 0, none⟩) L.length cp) L.length (X.map u8v) ∧ Below w.heap.size w wr2) (fun ii _ _ => L.length - (intOf ii).toNat)
      case atStart =>
        exact ⟨0, L.length - 1, L, by omega, by omega, rfl, by first | rfl | (refine congrArg (Value.int .i64) ?_; omega), Swapped.start L, H4.out, H5.out⟩
      case round =>
        obtain ⟨i, J, X, hiJ, hi, rfl, rfl, hsw, hown2, hbel2⟩ := hrel
        by_cases hlt : i < J
        · have hXl : X.length = L.length := hsw.1
          have hst := hsw.step (by omega)
          rw [show L.length - 1 - i = J by omega] at hst
          have hci : wr.cell? ⟨g, i, none⟩ = some (.int .u8 ((X.getD i 0).toNat : Int)) := by
            rw [hown2.cellAt i (by omega), List.getElem?_map, List.getElem?_eq_getElem (by omega)]
            rw [List.getD_eq_getElem?_getD, List.getElem?_eq_getElem (by omega)]; rfl
          have hcj : wr.cell? ⟨g, J, none⟩ = some (.int .u8 ((X.getD J 0).toNat : Int)) := by
            rw [hown2.cellAt J (by omega), List.getElem?_map, List.getElem?_eq_getElem (by omega)]
            rw [List.getD_eq_getElem?_getD, List.getElem?_eq_getElem (by omega)]; rfl
          obtain ⟨x, hx⟩ : ∃ x, x = X.getD i 0 := ⟨_, rfl⟩
          obtain ⟨y, hy⟩ : ∃ y, y = X.getD J 0 := ⟨_, rfl⟩
          rw [← hx] at hci
          rw [← hy] at hcj
          rw [← hx, ← hy] at hst
          have hs1 := hown2.stored i (u8v y)
          rw [set_u8v] at hs1
          have hs2 := hs1.1.stored J (u8v x)
          rw [set_u8v] at hs2
          have hf1 : wr.frozen? ⟨g, i, none⟩ = false := hown2.frozenAt i
          have hf2 : wr.frozen? ⟨g, J, none⟩ = false := hown2.frozenAt J
          have hbel3 : Below w.heap.size w ((wr.setCell ⟨g, i, none⟩ (u8v y)).setCell ⟨g, J, none⟩ (u8v x)) :=
            (hbel2.grown hs1.2 hbel2.size (fun k hk => by injection hk with hk; omega)).grown hs2.2 (Nat.le_trans hbel2.size hs1.2.size) (fun k hk => by injection hk with hk; omega)
          have K1 := Lib.hid hs2.1; clear hs2 hs1
          have K2 := Lib.hid hbel3; clear hbel3 hbel2 hown2
          have K3 := Lib.hid hst; clear hst hsw hx hy
          go_wp2
          have hne : i ≠ J := by omega
          have hne2 : ¬ (i = J) := hne
          go_region
          all_goals go_wp2
          all_goals exact ⟨⟨i + 1, J - 1, _, by omega, by omega, by go_num, by refine congrArg (Value.int .i64) ?_; omega, K3.out, K1.out.drew, K2.out.drew⟩, by simp only [intOf]; omega⟩
        · have hX := hsw.done (by omega)
          rw [H3.out] at hX
          have H6 := Lib.hid hown2; clear hown2
          have H7 := Lib.hid hX; clear hX hsw
          have H8 := Lib.hid hbel2; clear hbel2
          go_wp2_with (refine wpList_bytes_own _ rfl 22 9 _ rfl 5 E_u8.ht Try.underlying5 Try.underlying9 w.heap.size _ _ X rfl (by exact H6.out) ?_)
          go_ret
          exact ⟨ret_eq (by rw [H7.out]; rfl), H8.out⟩
    · subst hx
      have hrev : (acc ++ [dB (m % 10)]) ++ (decN (m / 10)).reverse = (decN M).reverse := by rw [← hacc, decN_pos hp]; simp
      have H3 := Lib.hid hrev; clear hrev hacc
      have hal2 : acc.length ≤ 19 := by omega
      clear hal
      go_wp2_with (at_builtin; refine wpList_app E_u8 _ rfl (.tmp 22) (.tmp 26) rfl w.heap.size u3 acc.length _ rfl (H1.out.alloc _) _ _ _ _ rfl (Reads.new rfl) (one1 rfl) (by omega) (Nat.le_trans H2.out.size (by simp)) ?_; intro v1 w1 hown1 hg1 hat1)
      all_goals exact ⟨⟨m / 10, acc ++ [dB (m % 10)], _, by omega, rfl, by omega, H3.out, own_snoc hown1 _ (by rw [dB_toNat (by omega)]; omega), ((H2.out.alloc H2.out.size _).grown hg1 (Nat.le_trans H2.out.size (by simp)) (fun g hg => (H1.out.lt g hg).1))⟩, by simp only [intOf]; omega⟩
set_option maxRecDepth 100000 in
set_option maxHeartbeats 1000000 in
theorem idecNeg (M : Nat) (hM0 : 0 < M) (hM : M ≤ 9223372036854775808) (n : Int) (hn : n = -(M : Int)) (w : World) :
    Calls Try.prog 13 #[.int .i64 n] w fun e w' => e = .returned (.string (bs (decL (-(M : Int))))) ∧ Below w.heap.size w w' := by
  rw [decL_neg hM0]
  have hn0 : (n == 0) = false := by simp only [beq_eq_false_iff_ne]; omega
  have hns : decide (n < 0) = true := by simp only [decide_eq_true_eq]; omega
  have hlen := decN_19 (m := M) (by omega)
  have HN := Lib.hid hn; clear hn
  go_enter Try.func13, Try.ntmps13
  go_wp2
  go_loopw [3, 4] (fun v nn wr => ∃ (m : Nat) (acc : List UInt8) (x : Int), m ≤ 9223372036854775808 ∧ nn = .int .i64 x ∧ x = -(m : Int) ∧ acc ++ (decN m).reverse = (decN M).reverse ∧ wr.ownsRow w.heap.size 5 1 v acc.length (acc.map u8v) ∧ Below w.heap.size w wr) (fun _ nn _ => (intOf nn).natAbs)
  case atStart =>
    exact ⟨M, [], n, hM, rfl, HN.out, rfl, World.ownsRow_made w #[] 0 (Nat.le_refl _) (by simp [maxLen]) rfl, (Below.refl _ _).alloc (Nat.le_refl _) _⟩
  case round =>
    obtain ⟨m, acc, x, hm, rfl, hx, hacc, hown, hbel⟩ := hrel
    have hal : acc.length + (decN m).length = (decN M).length := by have := congrArg List.length hacc; simpa using this
    have H1 := Lib.hid hown; clear hown
    have H2 := Lib.hid hbel; clear hbel
    rcases Nat.eq_zero_or_pos m with rfl | hp
    · have hx0 : x = 0 := by rw [hx]; rfl
      subst hx0
      clear hx
      rw [decN_zero, List.reverse_nil, List.append_nil] at hacc
      rw [decN_zero, List.length_nil, Nat.add_zero] at hal
      obtain ⟨L, hL⟩ : ∃ L, L = acc ++ [45] := ⟨_, rfl⟩
      have hLr : L.reverse = 45 :: decN M := by rw [hL, hacc]; simp
      have hLn : L.length ≤ 20 := by rw [hL]; rw [List.length_append]; simp only [List.length_cons, List.length_nil]; omega
      have hL1 : 1 ≤ L.length := by rw [hL]; rw [List.length_append]; simp only [List.length_cons, List.length_nil]; omega
      have hal2 : acc.length ≤ 19 := by omega
      have HL := Lib.hid hL; clear hal hL hacc
      go_wp2_with (at_builtin; refine wpList_app E_u8 _ rfl (.tmp 30) (.tmp 31) rfl w.heap.size u3 acc.length _ rfl (H1.out.alloc _) _ _ _ _ rfl (Reads.new rfl) (one1 rfl) (by omega) (Nat.le_trans H2.out.size (by simp)) ?_; intro v1 w1 hown1 hgr1 hat1; obtain ⟨g, cp, hform, hg1, hg2⟩ := own_form' hown1 (Nat.succ_pos _); subst hform)
      have hLN : L.length = acc.length + 1 := by rw [HL.out]; simp
      have hLown : w1.ownsRow w.heap.size 5 1 (.slice (some ⟨g, 0, none⟩) (acc.length + 1) cp) (acc.length + 1) (L.map u8v) := by rw [HL.out, List.map_append]; exact hown1
      have hLbel : Below w.heap.size w w1 := ((H2.out.alloc H2.out.size _).grown hgr1 (Nat.le_trans H2.out.size (by simp)) (fun g hg => (H1.out.lt g hg).1))
      have H3 := Lib.hid hLr; clear hLr
      have H5 := Lib.hid hLbel; clear hLbel
      have H4 := Lib.hid hLown; clear hLown
      go_loopw [6, 7] (fun ii jj wr2 => ∃ (i J : Nat) (X : List UInt8), J + i + 1 = L.length ∧ i + i ≤ L.length ∧ ii = .int .i64 (i : Int) ∧ jj = .int .i64 (J : Int) ∧ Swapped L X i ∧ wr2.ownsRow w.heap.size 5 1 (.slice (some ⟨g, 0, none⟩) (acc.length + 1) cp) (acc.length + 1) (X.map u8v) ∧ Below w.heap.size w wr2) (fun ii _ _ => L.length - (intOf ii).toNat)
      case atStart =>
        exact ⟨0, L.length - 1, L, by omega, by omega, rfl, by first | rfl | (refine congrArg (Value.int .i64) ?_; omega), Swapped.start L, H4.out, H5.out⟩
      case round =>
        obtain ⟨i, J, X, hiJ, hi, rfl, rfl, hsw, hown2, hbel2⟩ := hrel
        by_cases hlt : i < J
        · have hXl : X.length = L.length := hsw.1
          have hst := hsw.step (by omega)
          rw [show L.length - 1 - i = J by omega] at hst
          have hci : wr.cell? ⟨g, i, none⟩ = some (.int .u8 ((X.getD i 0).toNat : Int)) := by
            rw [hown2.cellAt i (by omega), List.getElem?_map, List.getElem?_eq_getElem (by omega)]
            rw [List.getD_eq_getElem?_getD, List.getElem?_eq_getElem (by omega)]; rfl
          have hcj : wr.cell? ⟨g, J, none⟩ = some (.int .u8 ((X.getD J 0).toNat : Int)) := by
            rw [hown2.cellAt J (by omega), List.getElem?_map, List.getElem?_eq_getElem (by omega)]
            rw [List.getD_eq_getElem?_getD, List.getElem?_eq_getElem (by omega)]; rfl
          obtain ⟨x, hx⟩ : ∃ x, x = X.getD i 0 := ⟨_, rfl⟩
          obtain ⟨y, hy⟩ : ∃ y, y = X.getD J 0 := ⟨_, rfl⟩
          rw [← hx] at hci
          rw [← hy] at hcj
          rw [← hx, ← hy] at hst
          have hs1 := hown2.stored i (u8v y)
          rw [set_u8v] at hs1
          have hs2 := hs1.1.stored J (u8v x)
          rw [set_u8v] at hs2
          have hf1 : wr.frozen? ⟨g, i, none⟩ = false := hown2.frozenAt i
          have hf2 : wr.frozen? ⟨g, J, none⟩ = false := hown2.frozenAt J
          have hbel3 : Below w.heap.size w ((wr.setCell ⟨g, i, none⟩ (u8v y)).setCell ⟨g, J, none⟩ (u8v x)) :=
            (hbel2.grown hs1.2 hbel2.size (fun k hk => by injection hk with hk; omega)).grown hs2.2 (Nat.le_trans hbel2.size hs1.2.size) (fun k hk => by injection hk with hk; omega)
          have K1 := Lib.hid hs2.1; clear hs2 hs1
          have K2 := Lib.hid hbel3; clear hbel3 hbel2 hown2
          have K3 := Lib.hid hst; clear hst hsw hx hy
          go_wp2
          have hne : i ≠ J := by omega
          have hne2 : ¬ (i = J) := hne
          go_region
          all_goals go_wp2
          all_goals exact ⟨⟨i + 1, J - 1, _, by omega, by omega, by go_num, by refine congrArg (Value.int .i64) ?_; omega, K3.out, K1.out.drew, K2.out.drew⟩, by simp only [intOf]; omega⟩
        · have hX := hsw.done (by omega)
          rw [H3.out] at hX
          have H6 := Lib.hid hown2; clear hown2
          have H7 := Lib.hid hX; clear hX hsw
          have H8 := Lib.hid hbel2; clear hbel2
          go_wp2_with (refine wpList_bytes_own _ rfl 22 9 _ rfl 5 E_u8.ht Try.underlying5 Try.underlying9 w.heap.size _ _ X rfl (by exact H6.out) ?_)
          go_ret
          exact ⟨ret_eq (by rw [H7.out]; rfl), H8.out⟩
    · subst hx
      have hrev : (acc ++ [dB (m % 10)]) ++ (decN (m / 10)).reverse = (decN M).reverse := by rw [← hacc, decN_pos hp]; simp
      have H3 := Lib.hid hrev; clear hrev hacc
      have hal2 : acc.length ≤ 19 := by omega
      clear hal
      have hq1 : Int.tmod (-(m : Int)) 10 = -((m % 10 : Nat) : Int) := tmod_neg m
      have hq2 : Int.tdiv (-(m : Int)) 10 = -((m / 10 : Nat) : Int) := tdiv_neg m
      go_wp2_with (at_builtin; refine wpList_app E_u8 _ rfl (.tmp 22) (.tmp 26) rfl w.heap.size u3 acc.length _ rfl (H1.out.alloc _) _ _ _ _ rfl (Reads.new rfl) (one1 rfl) (by omega) (Nat.le_trans H2.out.size (by simp)) ?_; intro v1 w1 hown1 hg1 hat1)
      all_goals exact ⟨⟨m / 10, acc ++ [dB (m % 10)], _, by omega, rfl, by omega, H3.out, own_snoc hown1 _ (by rw [dB_toNat (by omega)]; omega), ((H2.out.alloc H2.out.size _).grown hg1 (Nat.le_trans H2.out.size (by simp)) (fun g hg => (H1.out.lt g hg).1))⟩, by simp only [intOf]; omega⟩

theorem iDec_any (n : Int) (w : World) (hn : i64ok n) :
    Calls Try.prog 13 #[.int .i64 n] w fun e w' => e = .returned (.string (bs (decL n))) ∧ Below w.heap.size w w' := by
  obtain ⟨h1, h2⟩ := hn
  rcases Int.lt_trichotomy n 0 with h | rfl | h
  · obtain ⟨M, rfl⟩ : ∃ M : Nat, n = -(M : Int) := ⟨n.natAbs, by omega⟩
    exact idecNeg M (by omega) (by omega) _ rfl w
  · rw [decL_zero]
    go_enter Try.func13, Try.ntmps13
    go_wp2
    go_ret
    exact ⟨ret_eq rfl, Below.refl _ _⟩
  · obtain ⟨M, rfl⟩ := Int.eq_ofNat_of_zero_le (show 0 ≤ n by omega)
    exact idecPos M (by omega) (by omega) _ rfl w

end Go.Proofs.Ytinacpjelephoaa
