/-
  What the reference draws out of a code (l1New, l1Byte, l1Below, l1Once, l1Text, l1PickInt, l1Num), with its values. Conditions: a code of at most 2^20 bytes.
-/
import Derived.Test.YtinacpjelephoaaDrawP
import Derived.Test.YtinacpjelephoaaRow
import Derived.Test.YtinacpjelephoaaNumB
namespace Go.Proofs.Ytinacpjelephoaa
open Go.RowKit

def Cur (B g : Nat) (xs : List UInt8) (s : DSt) (w : World) : Prop := ∃ (A : Option Addr) (n c : Nat), Blk w g 71 [.slice A n c, .int .i64 (s.i : Int), .int .i64 s.h].toArray ∧ Reads w 1 A n (xs.map u8v) ∧ n = xs.length ∧ s.i ≤ n ∧ n ≤ 1048576 ∧ B ≤ g ∧ ∀ ad, A = some ad → 0 < n → ad.block < B
theorem ad_none {w : World} {ad : Addr} {v : Value} (h : w.cell? (ad.add 0) = some v) : ∃ b o, ad = ⟨b, o, none⟩ := by
  obtain ⟨b, o, sp⟩ := ad
  cases sp with
  | none => exact ⟨b, o, rfl⟩
  | some x =>
    simp only [Addr.add, if_true, World.cell?] at h
    split at h <;> cases h
theorem reads_set {w : World} {g k n : Nat} {A : Option Addr} {xs : List Value} (h : Reads w 1 A n xs) (hA : ∀ ad, A = some ad → 0 < n → ad.block ≠ g) (v : Value) : Reads (w.setCell ⟨g, k, none⟩ v) 1 A n xs :=
  ⟨h.1, fun hn => by
    obtain ⟨ad, e, hc⟩ := h.2 hn
    refine ⟨ad, e, fun j u hu => ?_⟩
    have h2 := hc j u hu
    rw [World.cell?_of_block (w := w) (w' := w.setCell ⟨g, k, none⟩ v) (Below.heap_setCell _ _ _ _ (by rw [block_of_add]; exact hA ad e hn))]
    exact h2⟩
theorem grown_set (w : World) (g k : Nat) (v : Value) : w.grownBy (w.setCell ⟨g, k, none⟩ v) (some g) :=
  ⟨rfl, rfl, rfl, by simp [World.setCell], fun b hb hn => Below.heap_setCell _ _ _ _ (fun e => hn (by rw [e]))⟩
theorem gdrew {a b : World} {r : Option Nat} (h : a.grownBy b r) : a.grownBy b.drew r := ⟨h.os, h.tape, h.output, h.size, h.block⟩
theorem grown_trans {a b c : World} {r : Option Nat} (h : a.grownBy b r) (k : b.grownBy c r) : a.grownBy c r :=
  ⟨k.os.trans h.os, k.tape.trans h.tape, k.output.trans h.output, Nat.le_trans h.size k.size, fun j hj hn => (k.block j (Nat.lt_of_lt_of_le hj h.size) hn).trans (h.block j hj hn)⟩
theorem grown_alloc (w : World) (o : Obj) : w.grownBy (w.alloc o) none :=
  ⟨rfl, rfl, rfl, by simp, fun k hk _ => Below.block ((Below.refl _ w).alloc (Nat.le_refl _) o) k hk⟩
theorem grown_weak {a b : World} {r : Option Nat} (h : a.grownBy b none) : a.grownBy b r := ⟨h.os, h.tape, h.output, h.size, fun k hk _ => h.block k hk (by simp)⟩
theorem own_byte {w : World} {base e n : Nat} {v : Value} {l : List UInt8} {R : Int} (h : w.ownsRow base e 1 v n (l.map u8v ++ [.int .u8 R])) (h0 : 0 ≤ R) (h1 : R ≤ 255) : ∃ b : UInt8, w.ownsRow base e 1 v n ((l ++ [b]).map u8v) := by
  refine ⟨UInt8.ofNat R.toNat, ?_⟩
  rw [List.map_append]
  have : [UInt8.ofNat R.toNat].map u8v = [.int .u8 R] := by
    simp only [List.map_cons, List.map_nil, u8v]
    rw [ofNat_toNat (by omega), Int.toNat_of_nonneg h0]
  rw [this]
  exact h
theorem Cur.lt {B g : Nat} {xs : List UInt8} {s : DSt} {w : World} (h : Cur B g xs s w) : g < w.heap.size := by
  obtain ⟨A, n, c, hb, _⟩ := h
  exact hb.lt
theorem Cur.keep {B g : Nat} {xs : List UInt8} {s : DSt} {w w' : World} {r : Option Nat} (h : Cur B g xs s w) (hg : w.grownBy w' r) (hr : ∀ k, r = some k → g < k) : Cur B g xs s w' := by
  obtain ⟨A, n, c, hb, hrd, hnx, hin, hn, hBg, hA⟩ := h
  refine ⟨A, n, c, hb.keep (hg.block g hb.lt (fun e => by have := hr g e.symm; omega)), ⟨hrd.1, fun hn0 => ?_⟩, hnx, hin, hn, hBg, hA⟩
  obtain ⟨ad, e, hc⟩ := hrd.2 hn0
  refine ⟨ad, e, fun j u hu => ?_⟩
  have h2 := hc j u hu
  have hlt := World.block_lt_of_cell? _ _ h2
  have hb2 := hA ad e hn0
  rw [World.cell?_of_block (hg.block _ hlt (fun e2 => by have := hr _ e2.symm; rw [block_of_add] at this; omega))]
  exact h2
set_option maxRecDepth 100000 in
set_option maxHeartbeats 1000000 in
theorem l1Byte_x (B g : Nat) (xs : List UInt8) (s : DSt) (w : World) (hc : Cur B g xs s w) :
    Calls Try.prog 53 #[.pointer (some ⟨g, 0, none⟩)] w fun e w' => e = .returned (.int .i64 ((byteF xs s).1 : Int)) ∧ Cur B g xs (byteF xs s).2 w' ∧ w.grownBy w' (some g) := by
  obtain ⟨A, n, c, hb, hr, hnx, hin, hn, hBg, hA0⟩ := hc
  have hyes := @byteF_yes xs s
  have hno := @byteF_no xs s
  have hii := byteF_i (xs := xs) (s := s) (by omega)
  generalize byteF xs s = R at hyes hno hii ⊢
  obtain ⟨i, h⟩ := s
  obtain ⟨rv, ⟨ri, rh⟩⟩ := R
  simp only [] at hyes hno hin hb hii
  have hA : ∀ ad, A = some ad → 0 < n → ad.block ≠ g := fun ad e hn => by have := hA0 ad e hn; omega
  have c0 := blk_cell0 hb 0 rfl
  have c1 := blk_cell0 hb 1 rfl
  have c2 := blk_cell0 hb 2 rfl
  have f1 := hb.frozen 1
  have f2 := hb.frozen 2
  have hmix := (mixH_le (nxtH h)).2
  have hmixb := (mixH_le (nxtH h)).1
  have HNX := Lib.hid hnx; clear hnx
  by_cases hlt : i < n
  · obtain ⟨ad, rfl, hcs⟩ := hr.2 (by omega)
    have hl : i < xs.length := by have := HNX.out; omega
    have hl0 : 0 < xs.length := by omega
    obtain ⟨gA, oA, rfl⟩ := ad_none (hcs 0 (u8v xs[0]) (by rw [List.getElem?_map, List.getElem?_eq_getElem hl0]; rfl))
    have hd : decide ((i : Int) < (n : Int)) = true := by simp; omega
    obtain ⟨hv, hst⟩ := hyes hl
    injection hst with hst1 hst2
    have HV := Lib.hid hv
    have HS1 := Lib.hid hst1
    have HS2 := Lib.hid hst2
    have HMX := Lib.hid hmix
    clear hyes hno hv hst1 hst2 hmix
    go_enter Try.func53, Try.ntmps53
    go_wp2
    refine wp_region_x 13 [0, 1, 2, 3, 4, 5, 6, 7, 8, 9, 10, 11, 12] (by kernel_rfl) (by kernel_rfl) ?_
    iterate 13 (refine wpX_quiet rfl (by kernel_rfl) rfl ?_; go_wp2; refine ⟨rfl, ?_⟩)
    refine wpX_nil ?_; simp only [List.drop_succ_cons, List.drop_zero]
    go_wp2_with fail
    have hh : nxtH h = wrap64 (wrap64 (h * 6364136223846793005) + 1442695040888963407) := rfl
    rw [← hh]
    have HH := Lib.hid hh; clear hh
    rw [HMX.out]
    generalize nxtH h = h' at *
    generalize hm1 : mixH h' = m1 at *
    generalize h' / 8589934592 = q1
    generalize h' / 35184372088832 = q2
    generalize bits .xor .i64 q1 q2 = q3
    have HMm := Lib.hid hm1; clear hm1
    have hw1 : Blk (w.setCell ⟨g, 2, none⟩ (.int .i64 h')) g 71 [.slice (some ⟨gA, oA, none⟩) n c, .int .i64 (i : Int), .int .i64 h'].toArray := by
      have := hb.set 2 (.int .i64 h')
      exact this
    have hr1 := reads_set (k := 2) hr hA (.int .i64 h')
    have hg1 := grown_set w g 2 (.int .i64 h')
    generalize w.setCell ⟨g, 2, none⟩ (.int .i64 h') = w1 at hw1 hr1 hg1 ⊢
    clear c0 c1 c2 f1 f2 hb hr
    have c0 := blk_cell0 hw1 0 rfl
    have c1 := blk_cell0 hw1 1 rfl
    have f1 := hw1.frozen 1
    go_wp2
    refine wp_region_x 10 [0, 1, 2, 3, 4, 5, 6, 7, 8, 9] (by kernel_rfl) (by kernel_rfl) ?_
    iterate 10 (refine wpX_quiet rfl (by kernel_rfl) rfl ?_; go_wp2; refine ⟨rfl, ?_⟩)
    refine wpX_nil ?_; simp only [List.drop_succ_cons, List.drop_zero]
    have cA : w1.cell? ⟨gA, oA + i, none⟩ = some (.int .u8 ((xs[i].toNat : Nat) : Int)) := by
      obtain ⟨ad, e, hcs1⟩ := hr1.2 (by omega)
      injection e with e
      subst e
      have := hcs1 i (u8v xs[i]) (by rw [List.getElem?_map, List.getElem?_eq_getElem hl]; rfl)
      rw [add_plain] at this
      exact this
    have hxb := xs[i].toNat_lt
    generalize xs[i] = xb at *
    go_wp2
    refine wp_region_x 15 [0, 1, 2, 3, 4, 5, 6, 7, 8, 9, 10, 11, 12, 13, 14] (by kernel_rfl) (by kernel_rfl) ?_
    iterate 15 (refine wpX_quiet rfl (by kernel_rfl) rfl ?_; go_wp2; refine ⟨rfl, ?_⟩)
    refine wpX_nil ?_; simp only [List.drop_succ_cons, List.drop_zero]
    go_wp2_with fail
    rw [HV.out]
    have HII := Lib.hid hii; clear hii
    go_wp2
    go_ret
    refine ⟨ret_eq rfl, ⟨some ⟨gA, oA, none⟩, n, c, ?_, reads_set hr1 hA _, HNX.out, by have := HII.out; have := HNX.out; simp only; omega, hn, hBg, hA0⟩, ?_⟩
    · have := hw1.set 1 (.int .i64 ((i : Int) + 1))
      simp only [HS1.out, HS2.out]
      exact this
    · exact grown_trans hg1 (gdrew (gdrew (gdrew (grown_set w1 g 1 _))))
  · have hd : decide ((i : Int) < (n : Int)) = false := by simp; omega
    have hv := hno (by have := HNX.out; omega)
    injection hv with hv1 hst
    injection hst with hst1 hst2
    have HV := Lib.hid hv1
    have HS1 := Lib.hid hst1
    have HS2 := Lib.hid hst2
    have HMX := Lib.hid hmix
    clear hyes hno hv1 hst1 hst2 hmix
    go_enter Try.func53, Try.ntmps53
    go_wp2
    refine wp_region_x 13 [0, 1, 2, 3, 4, 5, 6, 7, 8, 9, 10, 11, 12] (by kernel_rfl) (by kernel_rfl) ?_
    iterate 13 (refine wpX_quiet rfl (by kernel_rfl) rfl ?_; go_wp2; refine ⟨rfl, ?_⟩)
    refine wpX_nil ?_; simp only [List.drop_succ_cons, List.drop_zero]
    go_wp2_with fail
    have hh : nxtH h = wrap64 (wrap64 (h * 6364136223846793005) + 1442695040888963407) := rfl
    rw [← hh]
    have HH := Lib.hid hh; clear hh
    rw [HMX.out, ← HV.out]
    have hrv : rv ≤ 255 := by rw [HV.out]; exact hmixb
    clear hmixb HMX HH
    generalize nxtH h = h' at *
    generalize h' / 8589934592 = q1
    generalize h' / 35184372088832 = q2
    generalize bits .xor .i64 q1 q2 = q3
    have hw1 : Blk (w.setCell ⟨g, 2, none⟩ (.int .i64 h')) g 71 [.slice A n c, .int .i64 (i : Int), .int .i64 h'].toArray := by
      have := hb.set 2 (.int .i64 h')
      exact this
    have hr1 := reads_set (k := 2) hr hA (.int .i64 h')
    have hg1 := grown_set w g 2 (.int .i64 h')
    generalize w.setCell ⟨g, 2, none⟩ (.int .i64 h') = w1 at hw1 hr1 hg1 ⊢
    clear c0 c1 c2 f1 f2 hb hr
    have c0 := blk_cell0 hw1 0 rfl
    have c1 := blk_cell0 hw1 1 rfl
    have f1 := hw1.frozen 1
    have HII := Lib.hid hii; clear hii
    go_wp2
    refine wp_region_x 10 [0, 1, 2, 3, 4, 5, 6, 7, 8, 9] (by kernel_rfl) (by kernel_rfl) ?_
    iterate 10 (refine wpX_quiet rfl (by kernel_rfl) rfl ?_; go_wp2; refine ⟨rfl, ?_⟩)
    refine wpX_nil ?_; simp only [List.drop_succ_cons, List.drop_zero]
    go_wp2
    go_ret
    refine ⟨ret_eq rfl, ⟨A, n, c, ?_, hr1, HNX.out, by have := HII.out; have := HNX.out; simp only; omega, hn, hBg, hA0⟩, gdrew (gdrew hg1)⟩
    simp only [HS1.out, HS2.out]
    exact hw1
set_option maxRecDepth 100000 in
set_option maxHeartbeats 1000000 in
theorem l1Below_x (B g n : Nat) (xs : List UInt8) (s : DSt) (w : World) (hc : Cur B g xs s w) (h1 : 1 ≤ n) (h2 : n ≤ 1000000000) :
    Calls Try.prog 51 #[.pointer (some ⟨g, 0, none⟩), .int .i64 (n : Int)] w fun e w' => e = .returned (.int .i64 ((belowF xs n s).1 : Int)) ∧ Cur B g xs (belowF xs n s).2 w' ∧ w.grownBy w' (some g) := by
  have hd1 : decide ((n : Int) ≤ 0) = false := by simp; omega
  have hne : ((n : Int) == 0) = false := by simp; omega
  unfold belowF
  by_cases hs : n ≤ 256
  · rw [if_pos hs]
    have hd2 : decide ((n : Int) ≤ 256) = true := by simp; omega
    have hb := byteF_le xs s
    have H1 := Lib.hid (fun w hc => l1Byte_x B g xs s w hc)
    generalize byteF xs s = R at *
    obtain ⟨rv, rs⟩ := R
    simp only [] at hb ⊢
    go_enter Try.func51, Try.ntmps51
    go_wp2_with fail
    refine (H1.out _ hc).mono ?_
    rintro e w2 ⟨rfl, hc2, hg⟩
    have HC := Lib.hid hc2; clear hc2
    have HG := Lib.hid hg; clear hg
    go_wp2
    go_ret
    exact ⟨ret_eq (by first | rfl | simp), HC.out, HG.out⟩
  · rw [if_neg hs]
    have hd2 : decide ((n : Int) ≤ 256) = false := by simp; omega
    have hb1 := byteF_le xs s
    have hb2 := byteF_le xs (byteF xs s).2
    have hb3 := byteF_le xs (byteF xs (byteF xs s).2).2
    have hb4 := byteF_le xs (byteF xs (byteF xs (byteF xs s).2).2).2
    have T1 := Lib.hid (fun w hc => l1Byte_x B g xs s w hc)
    have T2 := Lib.hid (fun w hc => l1Byte_x B g xs (byteF xs s).2 w hc)
    have T3 := Lib.hid (fun w hc => l1Byte_x B g xs (byteF xs (byteF xs s).2).2 w hc)
    have T4 := Lib.hid (fun w hc => l1Byte_x B g xs (byteF xs (byteF xs (byteF xs s).2).2).2 w hc)
    simp only []
    generalize byteF xs (byteF xs (byteF xs (byteF xs s).2).2).2 = R4 at *
    generalize byteF xs (byteF xs (byteF xs s).2).2 = R3 at *
    generalize byteF xs (byteF xs s).2 = R2 at *
    generalize byteF xs s = R1 at *
    obtain ⟨r4, s4⟩ := R4
    obtain ⟨r3, s3⟩ := R3
    obtain ⟨r2, s2⟩ := R2
    obtain ⟨r1, s1⟩ := R1
    simp only [] at hb1 hb2 hb3 hb4 ⊢
    go_enter Try.func51, Try.ntmps51
    go_wp2_with fail
    refine (T1.out _ hc).mono ?_
    rintro e w2 ⟨rfl, hc2, hg2⟩
    have H2 := Lib.hid hg2; clear hg2 hc
    go_wp2_with fail
    refine (T2.out _ hc2).mono ?_
    rintro e w3 ⟨rfl, hc3, hg3⟩
    have H3 := Lib.hid (grown_trans H2.out hg3); clear hg3 hc2 H2
    go_wp2_with fail
    refine (T3.out _ hc3).mono ?_
    rintro e w4 ⟨rfl, hc4, hg4⟩
    have H4 := Lib.hid (grown_trans H3.out hg4); clear hg4 hc3 H3
    go_wp2_with fail
    refine (T4.out _ hc4).mono ?_
    rintro e w5 ⟨rfl, hc5, hg5⟩
    have H5 := Lib.hid (grown_trans H4.out hg5); clear hg5 hc4 H4
    have HC := Lib.hid hc5; clear hc5
    go_wp2
    go_ret
    exact ⟨ret_eq (by first | rfl | simp | (congr 1; push_cast; rfl)), HC.out, H5.out⟩

end Go.Proofs.Ytinacpjelephoaa
