/-
  A text spoilt; what FnNumbers draws, with its values. Conditions: a code of at most 2^20 bytes.
-/
import Derived.Test.YtinacpjelephoaaDrawZ
import Derived.Test.YtinacpjelephoaaReadVar
namespace Go.Proofs.Ytinacpjelephoaa
open Go.RowKit

theorem own_built (w : World) (base : Nat) (b : Nat) (cs : Array Value) (hb : base ≤ w.heap.size) (hc : cs = #[.int .u8 (b : Int)]) (h255 : b ≤ 255) : (w.alloc (.cells cs 5)).ownsRow base 5 1 (.slice (some ⟨w.heap.size, 0, none⟩) 1 1) 1 ([UInt8.ofNat b].map u8v) := by
  subst hc
  have : [UInt8.ofNat b].map u8v = [.int .u8 (b : Int)] := by
    simp only [List.map_cons, List.map_nil, u8v]
    rw [ofNat_toNat (by omega)]
  rw [this]
  exact ⟨rfl, .inr ⟨w.heap.size, 1, _, rfl, hb, heap_alloc_new w _, Nat.le_refl _, by simp [maxLen], rfl, rfl⟩⟩
theorem Cur.below {B g : Nat} {xs : List UInt8} {s : DSt} {w w' : World} (h : Cur B g xs s w) (hb : Below w.heap.size w w') : Cur B g xs s w' := by
  obtain ⟨A, n, c, hbk, hrd, hnx, hin, hn, hBg, hA⟩ := h
  refine ⟨A, n, c, hbk.below hb, hrd.below hb, hnx, hin, hn, hBg, hA⟩
theorem below_grown {w w' : World} {g : Nat} (h : Below w.heap.size w w') : w.grownBy w' (some g) := ⟨h.os, h.tape, h.output, h.size, fun k hk _ => h.block k hk⟩
set_option maxRecDepth 100000 in
set_option maxHeartbeats 4000000 in
theorem l1Spoil_x (B g : Nat) (xs : List UInt8) (s : DSt) (l : List UInt8) (w : World) (hc : Cur B g xs s w) (hl : l.length ≤ 1000) :
    Calls Try.prog 36 #[.pointer (some ⟨g, 0, none⟩), .string (bs l)] w fun e w' => e = .returned (.string (bs (spoilF xs s l).1)) ∧ Cur B g xs (spoilF xs s l).2 w' ∧ w.grownBy w' (some g) := by
  unfold spoilF
  by_cases hl0 : l = []
  · subst hl0
    rw [if_pos rfl]
    have H1 := Lib.hid (fun w hc => l1Text_x B g 3 xs s w hc (by omega))
    generalize textF xs 3 s = R at *
    obtain ⟨rv, rs⟩ := R
    simp only [] at H1 ⊢
    go_enter Try.func36, Try.ntmps36
    go_wp2_with fail
    refine (H1.out _ hc).mono ?_
    rintro e w2 ⟨rfl, hc2, hg⟩
    have HC := Lib.hid hc2; clear hc2
    have HG := Lib.hid hg; clear hg
    go_wp2
    go_ret
    exact ⟨ret_eq rfl, HC.out, HG.out⟩
  · rw [if_neg hl0]
    have hlp : 0 < l.length := List.length_pos_iff.2 hl0
    have hb0 : ((l.length : Int) == 0) = false := by simp only [beq_eq_false_iff_ne]; omega
    clear hl0
    simp only []
    have H1 := Lib.hid (fun w hc => l1Below_x B g l.length xs s w hc (by omega) (by omega))
    have hr := belowF_lt xs l.length s (by omega)
    generalize belowF xs l.length s = R1 at *
    obtain ⟨r, s1⟩ := R1
    simp only [] at H1 hr ⊢
    have H2 := Lib.hid (fun w hc => l1Below_x B g 4 xs s1 w hc (by omega) (by omega))
    have hm := belowF_lt xs 4 s1 (by omega)
    generalize belowF xs 4 s1 = R2 at *
    obtain ⟨m, s2⟩ := R2
    simp only [] at H2 hm ⊢
    have hrl1 : (r : Int) ≤ (l.length : Int) := by omega
    have hrl2 : (r : Int) + 1 ≤ (l.length : Int) := by omega
    by_cases h0 : m = 0
    · subst h0
      rw [if_pos rfl]
      go_enter Try.func36, Try.ntmps36
      go_wp2_with fail
      refine (H1.out _ hc).mono ?_
      rintro e w2 ⟨rfl, hc2, hg2⟩
      go_wp2_with fail
      refine (H2.out _ hc2).mono ?_
      rintro e w3 ⟨rfl, hc3, hg3⟩
      have HC := Lib.hid hc3; clear hc3 hc2
      have HG := Lib.hid (grown_trans hg2 hg3); clear hg2 hg3
      go_wp2
      refine wp_region_x 9 [0, 1, 2, 3, 4, 5, 6, 7, 8] (by kernel_rfl) (by kernel_rfl) ?_
      iterate 9 (refine wpX_quiet rfl (by kernel_rfl) rfl ?_; go_wp2; refine ⟨rfl, ?_⟩)
      refine wpX_nil ?_; simp only [List.drop_succ_cons, List.drop_zero]
      go_wp2
      go_ret
      exact ⟨ret_eq (by first | rfl | simp), HC.out, gdrew HG.out⟩
    · rw [if_neg h0]
      have hb1 : ((m : Int) == 0) = false := by simp only [beq_eq_false_iff_ne]; omega
      by_cases h1 : m = 1
      · subst h1
        rw [if_pos rfl]
        have H3 := Lib.hid (fun w hc => l1Byte_x B g xs s2 w hc)
        have hb255 := byteF_le xs s2
        generalize byteF xs s2 = R3 at *
        obtain ⟨b, s3⟩ := R3
        simp only [] at H3 hb255 ⊢
        clear h0 hb1
        go_enter Try.func36, Try.ntmps36
        go_wp2_with fail
        refine (H1.out _ hc).mono ?_
        rintro e w2 ⟨rfl, hc2, hg2⟩
        go_wp2_with fail
        refine (H2.out _ hc2).mono ?_
        rintro e w3 ⟨rfl, hc3, hg3⟩
        have HC := Lib.hid hc3; clear hc3 hc2
        have HG := Lib.hid (grown_trans hg2 hg3); clear hg2 hg3
        go_wp2
        refine wp_region_i [0, 1, 2, 3, 9, 10, 11] [4, 5, 6, 7, 8, 12, 13] (by kernel_rfl) (by kernel_rfl) ?_
        iterate 7 (refine wpB_step rfl rfl ?_; go_wp2; refine ⟨rfl, ?_⟩)
        refine wpB_nil ?_
        simp only [pickOps, List.getElem?_toArray, List.getElem?_cons_succ, List.getElem?_cons_zero]
        go_wp2_with fail
        refine (H3.out _ (HC.out.keep (gdrew (show w3.grownBy w3 none from ⟨rfl, rfl, rfl, Nat.le_refl _, fun _ _ _ => rfl⟩)) (fun k hk => by cases hk))).mono ?_
        rintro e w4 ⟨rfl, hc4, hg4⟩
        have hG4 : w.grownBy w4 (some g) := grown_trans (gdrew HG.out) hg4
        have HBO := Lib.hid (own_built w4 w.heap.size b #[.int .u8 (b : Int)] hG4.size rfl hb255)
        have HC4 := Lib.hid (hc4.keep (grown_alloc w4 (.cells #[.int .u8 (b : Int)] 5)) (fun k hk => by cases hk))
        have HG4 := Lib.hid (grown_trans hG4 (grown_weak (grown_alloc w4 (.cells #[.int .u8 (b : Int)] 5)) (r := some g)))
        clear hc4 hg4 hG4
        go_wp2_with (first
          | (refine wpList_bytes_own _ rfl 22 9 _ rfl 5 E_u8.ht Try.underlying5 Try.underlying9 w.heap.size _ _ [UInt8.ofNat b] rfl (by exact HBO.out) ?_)
          | fail)
        refine ⟨trivial, ?_⟩
        go_wp2
        go_ret
        exact ⟨ret_eq (by first | rfl | simp), HC4.out, HG4.out⟩
      · rw [if_neg h1]
        have hb2 : ((m : Int) == 1) = false := by simp only [beq_eq_false_iff_ne]; omega
        by_cases h2 : m = 2
        · subst h2
          rw [if_pos rfl]
          go_enter Try.func36, Try.ntmps36
          go_wp2_with fail
          refine (H1.out _ hc).mono ?_
          rintro e w2 ⟨rfl, hc2, hg2⟩
          go_wp2_with fail
          refine (H2.out _ hc2).mono ?_
          rintro e w3 ⟨rfl, hc3, hg3⟩
          have HC := Lib.hid hc3; clear hc3 hc2
          have HG := Lib.hid (grown_trans hg2 hg3); clear hg2 hg3
          go_wp2
          go_ret
          exact ⟨ret_eq (by first | rfl | simp), HC.out, HG.out⟩
        · rw [if_neg h2]
          have hb3 : ((m : Int) == 2) = false := by simp only [beq_eq_false_iff_ne]; omega
          have H3 := Lib.hid (fun w hc => l1Below_x B g 255 xs s2 w hc (by omega) (by omega))
          have hb255 := belowF_lt xs 255 s2 (by omega)
          generalize belowF xs 255 s2 = R3 at *
          obtain ⟨b, s3⟩ := R3
          simp only [] at H3 hb255 ⊢
          have hgd : l.getD r 0 = l[r] := by simp [hr]
          rw [hgd]
          obtain ⟨v, hv⟩ : ∃ v, v = spoilB l[r] b := ⟨_, rfl⟩
          rw [← hv]
          have hcb := l[r].toNat_lt
          obtain ⟨q, hq255, hqe⟩ := mod256 (bits .xor .i64 ((l[r].toNat : Nat) : Int) (1 + (b : Int)))
          have hvq : v = UInt8.ofNat q := by rw [hv, spoilB, hqe]; rfl
          clear hgd
          have HV := Lib.hid hvq; clear hvq hv
          clear h0 h1 h2
          go_enter Try.func36, Try.ntmps36
          go_wp2_with fail
          refine (H1.out _ hc).mono ?_
          rintro e w2 ⟨rfl, hc2, hg2⟩
          go_wp2_with fail
          refine (H2.out _ hc2).mono ?_
          rintro e w3 ⟨rfl, hc3, hg3⟩
          have HC := Lib.hid hc3; clear hc3 hc2
          have HG := Lib.hid (grown_trans hg2 hg3); clear hg2 hg3
          go_wp2
          refine wp_region_i [0, 1, 2, 3, 4, 5, 6, 7, 15, 16, 17, 18] [8, 9, 10, 11, 12, 13, 14, 19, 20] (by kernel_rfl) (by kernel_rfl) ?_
          iterate 12 (refine wpB_step rfl rfl ?_; go_wp2; refine ⟨rfl, ?_⟩)
          refine wpB_nil ?_
          simp only [pickOps, List.getElem?_toArray, List.getElem?_cons_succ, List.getElem?_cons_zero]
          go_wp2_with fail
          refine (H3.out _ (HC.out.keep (gdrew (show w3.grownBy w3 none from ⟨rfl, rfl, rfl, Nat.le_refl _, fun _ _ _ => rfl⟩)) (fun k hk => by cases hk))).mono ?_
          rintro e w4 ⟨rfl, hc4, hg4⟩
          have hG4 : w.grownBy w4 (some g) := grown_trans (gdrew HG.out) hg4
          have HBO := Lib.hid (own_built w4 w.heap.size q #[.int .u8 (q : Int)] hG4.size rfl hq255)
          have HC4 := Lib.hid (hc4.keep (grown_alloc w4 (.cells #[.int .u8 (q : Int)] 5)) (fun k hk => by cases hk))
          have HG4 := Lib.hid (grown_trans hG4 (grown_weak (grown_alloc w4 (.cells #[.int .u8 (q : Int)] 5)) (r := some g)))
          clear hc4 hg4 hG4
          go_wp2_with (first
            | (refine wpList_bytes_own _ rfl 22 9 _ rfl 5 E_u8.ht Try.underlying5 Try.underlying9 w.heap.size _ _ [UInt8.ofNat q] rfl (by exact HBO.out) ?_)
            | fail)
          refine ⟨trivial, ?_⟩
          go_wp2
          go_ret
          exact ⟨ret_eq (by rw [HV.out]; first | rfl | simp), HC4.out, HG4.out⟩

def drawRVF (xs : List UInt8) : List UInt8 :=
  let a := numF xs (startF xs)
  let b := textF xs 4 a.2
  let c := onceF xs 4 b.2
  if c.1 = true then (spoilF xs c.2 (varF a.1 ++ b.1)).1 else varF a.1 ++ b.1
set_option maxRecDepth 100000 in
set_option maxHeartbeats 1000000 in
theorem drawVar_x (A : Option Addr) (n c : Nat) (xs : List UInt8) (w : World) (hr : Reads w 1 A n (xs.map u8v)) (hn : n ≤ 1048576) :
    Calls Try.prog 6 #[.slice A n c] w fun e w' => e = .returned (.int .i64 (numF xs (startF xs)).1) ∧ Below w.heap.size w w' := by
  go_enter Try.func6, Try.ntmps6
  go_wp2_with fail
  refine (l1New_x A n c xs _ hr hn).mono ?_
  rintro e w2 ⟨g, rfl, hc2, hb2⟩
  have hgB : w.heap.size ≤ g := by obtain ⟨_, _, _, _, _, _, _, _, h, _⟩ := hc2; exact h
  go_wp2_with fail
  refine (l1Num_x _ g xs _ _ hc2).mono ?_
  rintro e w3 ⟨rfl, hc3, hg3⟩
  have H3 := Lib.hid (show Below w.heap.size w w3 from hb2.grown hg3 hb2.size (fun k hk => by injection hk with hk; omega))
  clear hb2 hg3 hc2 hc3
  go_wp2
  go_ret
  exact ⟨ret_eq rfl, H3.out⟩
set_option maxRecDepth 100000 in
set_option maxHeartbeats 1000000 in
theorem drawHex_x (A : Option Addr) (n c : Nat) (xs : List UInt8) (w : World) (hr : Reads w 1 A n (xs.map u8v)) (hn : n ≤ 1048576) :
    Calls Try.prog 7 #[.slice A n c] w fun e w' => e = .returned (.string (bs (textF xs 40 (startF xs)).1)) ∧ Below w.heap.size w w' := by
  go_enter Try.func7, Try.ntmps7
  go_wp2_with fail
  refine (l1New_x A n c xs _ hr hn).mono ?_
  rintro e w2 ⟨g, rfl, hc2, hb2⟩
  have hgB : w.heap.size ≤ g := by obtain ⟨_, _, _, _, _, _, _, _, h, _⟩ := hc2; exact h
  go_wp2_with fail
  refine (l1Text_x _ g 40 xs _ _ hc2 (by omega)).mono ?_
  rintro e w3 ⟨rfl, hc3, hg3⟩
  have H3 := Lib.hid (show Below w.heap.size w w3 from hb2.grown hg3 hb2.size (fun k hk => by injection hk with hk; omega))
  clear hb2 hg3 hc2 hc3
  go_wp2
  go_ret
  exact ⟨ret_eq rfl, H3.out⟩
theorem varF_len8 (n : Int) : (varF n).length ≤ 100 := by
  unfold varF
  split
  · rename_i h
    have : ∀ (k : Nat) (m : Nat), m < 128 ^ k → (varL m).length ≤ k + 1 := by
      intro k
      induction k with
      | zero => intro m hm; simp at hm; subst hm; rw [varL]; simp
      | succ k ih =>
        intro m hm
        rw [varL]
        split
        · simp
        · have := ih (m / 128) (by rw [Nat.pow_succ] at hm; exact Nat.div_lt_of_lt_mul (by rw [Nat.mul_comm]; exact hm))
          simp only [List.length_cons]
          omega
    have h2 := this 8 n.toNat (by omega)
    omega
  · simp
set_option maxRecDepth 100000 in
set_option maxHeartbeats 1000000 in
theorem drawReadVar_x (A : Option Addr) (n c : Nat) (xs : List UInt8) (w : World) (hr : Reads w 1 A n (xs.map u8v)) (hn : n ≤ 1048576) :
    Calls Try.prog 16 #[.slice A n c] w fun e w' => e = .returned (.string (bs (drawRVF xs))) ∧ Below w.heap.size w w' := by
  unfold drawRVF
  simp only []
  have H1 := Lib.hid (fun B g w hc => l1Num_x B g xs (startF xs) w hc)
  generalize numF xs (startF xs) = R1 at *
  obtain ⟨a, s1⟩ := R1
  simp only [] at H1 ⊢
  have H2 := Lib.hid (fun B g w hc => l1Text_x B g 4 xs s1 w hc (by omega))
  have hbl := textF_len xs 4 s1
  generalize textF xs 4 s1 = R2 at *
  obtain ⟨b, s2⟩ := R2
  simp only [] at H2 hbl ⊢
  have H3 := Lib.hid (fun B g w hc => l1Once_x B g 4 xs s2 w hc (by omega) (by omega))
  generalize onceF xs 4 s2 = R3 at *
  obtain ⟨o, s3⟩ := R3
  simp only [] at H3 ⊢
  have hval := varF_len8 a
  have hvl : (varF a ++ b).length ≤ 1000 := by rw [List.length_append]; omega
  have H4 := Lib.hid (fun B g w hc => l1Spoil_x B g xs s3 (varF a ++ b) w hc hvl)
  have HV := Lib.hid (fun w => sVar_any a w)
  generalize varF a = va at *
  clear hvl
  obtain ⟨T, hT⟩ : ∃ T, T = (if o = true then (spoilF xs s3 (va ++ b)).1 else va ++ b) := ⟨_, rfl⟩
  rw [← hT]
  have HT := Lib.hid hT; clear hT
  go_enter Try.func16, Try.ntmps16
  go_wp2_with fail
  refine (l1New_x A n c xs _ hr hn).mono ?_
  rintro e w2 ⟨g, rfl, hc2, hb2⟩
  have hgB : w.heap.size ≤ g := by obtain ⟨_, _, _, _, _, _, _, _, h, _⟩ := hc2; exact h
  go_wp2_with fail
  refine (H1.out _ g _ hc2).mono ?_
  rintro e w3 ⟨rfl, hc3, hg3⟩
  have hb3 : Below w.heap.size w w3 := hb2.grown hg3 hb2.size (fun k hk => by injection hk with hk; omega)
  clear hb2 hg3 hc2
  go_wp2_with fail
  refine (HV.out _).mono ?_
  rintro e w4 ⟨rfl, hbv⟩
  have hc4 := hc3.below hbv
  have hb4 := hb3.trans (hbv.mono hb3.size)
  clear hb3 hbv hc3
  go_wp2_with fail
  refine (H2.out _ g _ hc4).mono ?_
  rintro e w5 ⟨rfl, hc5, hg5⟩
  have hb5 : Below w.heap.size w w5 := hb4.grown hg5 hb4.size (fun k hk => by injection hk with hk; omega)
  clear hb4 hg5 hc4
  go_wp2_with fail
  refine (H3.out _ g _ hc5).mono ?_
  rintro e w6 ⟨rfl, hc6, hg6⟩
  have hb6 : Below w.heap.size w w6 := hb5.grown hg6 hb5.size (fun k hk => by injection hk with hk; omega)
  clear hb5 hg6 hc5
  have B6 := Lib.hid hb6
  cases o
  · clear hb6 hc6
    go_wp2
    go_ret
    exact ⟨ret_eq (by rw [HT.out, if_neg (by simp)]; rfl), B6.out⟩
  · go_wp2_with fail
    refine (H4.out _ g _ hc6).mono ?_
    rintro e w7 ⟨rfl, hc7, hg7⟩
    have H7 := Lib.hid (show Below w.heap.size w w7 from hb6.grown hg7 hb6.size (fun k hk => by injection hk with hk; omega))
    clear hb6 hg7 hc6 hc7
    go_wp2
    go_ret
    exact ⟨ret_eq (by rw [HT.out, if_pos (by trivial)]; rfl), H7.out⟩

end Go.Proofs.Ytinacpjelephoaa
