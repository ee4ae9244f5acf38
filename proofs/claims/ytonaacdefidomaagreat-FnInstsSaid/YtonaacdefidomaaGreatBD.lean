/-
  What the reference draws out of a code (l1New, l1Byte, l1Below, l1Once, l1Text, l1PickInt, l1Num), with its values. Conditions: a code of at most 2^20 bytes.
  Where a drawing stands: the cursor, blocks of its own, data of its own. No condition.
  A law for regions that draw their order, with operations that touch no memory (addresses of fields) taken first wherever they stand, then a head in one order, then a tail in one order. Conditions: those that the law's Bool checks ask.
  A law for regions that draw their order: operations whose result hangs on no memory are taken first wherever they stand, then a head in one order, then a tail in one order, which may write whatever it will. Conditions: those that the law's Bool checks ask.
  More of what the reference draws out of a code, with its values (texts, numbers, a text spoilt). Conditions: a code of at most 2^20 bytes.
  More of what the reference draws out of a code, with its values (the beginning, numbers, a text spoilt). Conditions: a code of at most 2^20 bytes.
  A text spoilt; what FnNumbers draws, with its values. Conditions: a code of at most 2^20 bytes.
  A law for regions that draw their order and hold a call that writes (a cursor) beside loads that it leaves alone: a head of which all that is only read is taken first, all else in one order, all under a condition C on the worlds; then a tail in one order, which may write. Conditions: those that the law's Bool checks ask.
  A law for regions that draw their order: a head as a tree (what is only read is taken first wherever it is free; what acts in its turn; two that act and are free of each other both ways) under a condition C on the worlds, then a tail in one order, which may write. Conditions: those that the law's Bool checks ask.
-/
import Derived.Test.YtonaacdefidomaaGreatBA
set_option linter.unusedVariables false
set_option linter.unusedSimpArgs false
namespace Go.Proofs.YtonaacdefidomaaGreat
open Go.RowKit

def Cur (B g : Nat) (xs : List UInt8) (s : DSt) (w : World) : Prop := ∃ (A : Option Addr) (n c : Nat), Blk w g 71 [.slice A n c, .int .i64 (s.i : Int), .int .i64 s.h].toArray ∧ Reads w 1 A n (xs.map u8v) ∧ n = xs.length ∧ s.i ≤ n ∧ n ≤ 1048576 ∧ B ≤ g ∧ ∀ ad, A = some ad → 0 < n → ad.block < B
theorem ad_none {w : World} {ad : Addr} {v : Value} (h : w.cell? (ad.add 0) = some v) : ∃ b o, ad = ⟨b, o, none⟩ := by
  obtain ⟨b, o, sp⟩ := ad
  cases sp with
  | none => exact ⟨b, o, rfl⟩
  | some x =>
    simp only [Addr.add, if_true, World.cell?] at h
    split at h <;> cases h
theorem reads_set {w : World} {g k n : Nat} {A : Option Addr} {xs : List Value} (h : Reads w 1 A n xs) (hA : ∀ ad, A = some ad → 0 < n → ad.block ≠ g) (v : Value) : Reads (w.setCell ⟨g, k, none⟩ v) 1 A n xs :=
  ⟨h.1, fun hn => by
    obtain ⟨ad, e, hc⟩ := h.2 hn
    refine ⟨ad, e, fun j u hu => ?_⟩
    have h2 := hc j u hu
    rw [World.cell?_of_block (w := w) (w' := w.setCell ⟨g, k, none⟩ v) (Below.heap_setCell _ _ _ _ (by rw [block_of_add]; exact hA ad e hn))]
    exact h2⟩
theorem grown_set (w : World) (g k : Nat) (v : Value) : w.grownBy (w.setCell ⟨g, k, none⟩ v) (some g) :=
  ⟨rfl, rfl, rfl, by simp [World.setCell], fun b hb hn => Below.heap_setCell _ _ _ _ (fun e => hn (by rw [e]))⟩
theorem gdrew {a b : World} {r : Option Nat} (h : a.grownBy b r) : a.grownBy b.drew r := ⟨h.os, h.tape, h.output, h.size, h.block⟩
theorem grown_trans {a b c : World} {r : Option Nat} (h : a.grownBy b r) (k : b.grownBy c r) : a.grownBy c r :=
  ⟨k.os.trans h.os, k.tape.trans h.tape, k.output.trans h.output, Nat.le_trans h.size k.size, fun j hj hn => (k.block j (Nat.lt_of_lt_of_le hj h.size) hn).trans (h.block j hj hn)⟩
theorem grown_alloc (w : World) (o : Obj) : w.grownBy (w.alloc o) none :=
  ⟨rfl, rfl, rfl, by simp, fun k hk _ => Below.block ((Below.refl _ w).alloc (Nat.le_refl _) o) k hk⟩
theorem grown_weak {a b : World} {r : Option Nat} (h : a.grownBy b none) : a.grownBy b r := ⟨h.os, h.tape, h.output, h.size, fun k hk _ => h.block k hk (by simp)⟩
theorem own_byte {w : World} {base e n : Nat} {v : Value} {l : List UInt8} {R : Int} (h : w.ownsRow base e 1 v n (l.map u8v ++ [.int .u8 R])) (h0 : 0 ≤ R) (h1 : R ≤ 255) : ∃ b : UInt8, w.ownsRow base e 1 v n ((l ++ [b]).map u8v) := by
  refine ⟨UInt8.ofNat R.toNat, ?_⟩
  rw [List.map_append]
  have : [UInt8.ofNat R.toNat].map u8v = [.int .u8 R] := by
    simp only [List.map_cons, List.map_nil, u8v]
    rw [ofNat_toNat (by omega), Int.toNat_of_nonneg h0]
  rw [this]
  exact h
theorem Cur.lt {B g : Nat} {xs : List UInt8} {s : DSt} {w : World} (h : Cur B g xs s w) : g < w.heap.size := by
  obtain ⟨A, n, c, hb, _⟩ := h
  exact hb.lt
theorem Cur.keep {B g : Nat} {xs : List UInt8} {s : DSt} {w w' : World} {r : Option Nat} (h : Cur B g xs s w) (hg : w.grownBy w' r) (hr : ∀ k, r = some k → g < k) : Cur B g xs s w' := by
  obtain ⟨A, n, c, hb, hrd, hnx, hin, hn, hBg, hA⟩ := h
  refine ⟨A, n, c, hb.keep (hg.block g hb.lt (fun e => by have := hr g e.symm; omega)), ⟨hrd.1, fun hn0 => ?_⟩, hnx, hin, hn, hBg, hA⟩
  obtain ⟨ad, e, hc⟩ := hrd.2 hn0
  refine ⟨ad, e, fun j u hu => ?_⟩
  have h2 := hc j u hu
  have hlt := World.block_lt_of_cell? _ _ h2
  have hb2 := hA ad e hn0
  rw [World.cell?_of_block (hg.block _ hlt (fun e2 => by have := hr _ e2.symm; rw [block_of_add] at this; omega))]
  exact h2
set_option maxRecDepth 100000 in
set_option maxHeartbeats 1000000 in
theorem l1Byte_x (B g : Nat) (xs : List UInt8) (s : DSt) (w : World) (hc : Cur B g xs s w) :
    Calls Tryz.prog 56 #[.pointer (some ⟨g, 0, none⟩)] w fun e w' => e = .returned (.int .i64 ((byteF xs s).1 : Int)) ∧ Cur B g xs (byteF xs s).2 w' ∧ w.grownBy w' (some g) := by
  obtain ⟨A, n, c, hb, hr, hnx, hin, hn, hBg, hA0⟩ := hc
  have hyes := @byteF_yes xs s
  have hno := @byteF_no xs s
  have hii := byteF_i (xs := xs) (s := s) (by omega)
  generalize byteF xs s = R at hyes hno hii ⊢
  obtain ⟨i, h⟩ := s
  obtain ⟨rv, ⟨ri, rh⟩⟩ := R
  simp only [] at hyes hno hin hb hii
  have hA : ∀ ad, A = some ad → 0 < n → ad.block ≠ g := fun ad e hn => by have := hA0 ad e hn; omega
  have c0 := blk_cell0 hb 0 rfl
  have c1 := blk_cell0 hb 1 rfl
  have c2 := blk_cell0 hb 2 rfl
  have f1 := hb.frozen 1
  have f2 := hb.frozen 2
  have hmix := (mixH_le (nxtH h)).2
  have hmixb := (mixH_le (nxtH h)).1
  have HNX := Lib.hid hnx; clear hnx
  by_cases hlt : i < n
  · obtain ⟨ad, rfl, hcs⟩ := hr.2 (by omega)
    have hl : i < xs.length := by have := HNX.out; omega
    have hl0 : 0 < xs.length := by omega
    obtain ⟨gA, oA, rfl⟩ := ad_none (hcs 0 (u8v xs[0]) (by rw [List.getElem?_map, List.getElem?_eq_getElem hl0]; rfl))
    have hd : decide ((i : Int) < (n : Int)) = true := by simp; omega
    obtain ⟨hv, hst⟩ := hyes hl
    injection hst with hst1 hst2
    have HV := Lib.hid hv
    have HS1 := Lib.hid hst1
    have HS2 := Lib.hid hst2
    have HMX := Lib.hid hmix
    clear hyes hno hv hst1 hst2 hmix
    go_enter Tryz.func56, Tryz.ntmps56
    go_wp2
    refine wp_region_x 13 [0, 1, 2, 3, 4, 5, 6, 7, 8, 9, 10, 11, 12] (by kernel_rfl) (by kernel_rfl) ?_
    iterate 13 (refine wpX_quiet rfl (by kernel_rfl) rfl ?_; go_wp2; refine ⟨rfl, ?_⟩)
    refine wpX_nil ?_; simp only [List.drop_succ_cons, List.drop_zero]
    go_wp2_with fail
    have hh : nxtH h = wrap64 (wrap64 (h * 6364136223846793005) + 1442695040888963407) := rfl
    rw [← hh]
    have HH := Lib.hid hh; clear hh
    rw [HMX.out]
    generalize nxtH h = h' at *
    generalize hm1 : mixH h' = m1 at *
    generalize h' / 8589934592 = q1
    generalize h' / 35184372088832 = q2
    generalize bits .xor .i64 q1 q2 = q3
    have HMm := Lib.hid hm1; clear hm1
    have hw1 : Blk (w.setCell ⟨g, 2, none⟩ (.int .i64 h')) g 71 [.slice (some ⟨gA, oA, none⟩) n c, .int .i64 (i : Int), .int .i64 h'].toArray := by
      have := hb.set 2 (.int .i64 h')
      exact this
    have hr1 := reads_set (k := 2) hr hA (.int .i64 h')
    have hg1 := grown_set w g 2 (.int .i64 h')
    generalize w.setCell ⟨g, 2, none⟩ (.int .i64 h') = w1 at hw1 hr1 hg1 ⊢
    clear c0 c1 c2 f1 f2 hb hr
    have c0 := blk_cell0 hw1 0 rfl
    have c1 := blk_cell0 hw1 1 rfl
    have f1 := hw1.frozen 1
    go_wp2
    refine wp_region_x 10 [0, 1, 2, 3, 4, 5, 6, 7, 8, 9] (by kernel_rfl) (by kernel_rfl) ?_
    iterate 10 (refine wpX_quiet rfl (by kernel_rfl) rfl ?_; go_wp2; refine ⟨rfl, ?_⟩)
    refine wpX_nil ?_; simp only [List.drop_succ_cons, List.drop_zero]
    have cA : w1.cell? ⟨gA, oA + i, none⟩ = some (.int .u8 ((xs[i].toNat : Nat) : Int)) := by
      obtain ⟨ad, e, hcs1⟩ := hr1.2 (by omega)
      injection e with e
      subst e
      have := hcs1 i (u8v xs[i]) (by rw [List.getElem?_map, List.getElem?_eq_getElem hl]; rfl)
      rw [add_plain] at this
      exact this
    have hxb := xs[i].toNat_lt
    generalize xs[i] = xb at *
    go_wp2
    refine wp_region_x 15 [0, 1, 2, 3, 4, 5, 6, 7, 8, 9, 10, 11, 12, 13, 14] (by kernel_rfl) (by kernel_rfl) ?_
    iterate 15 (refine wpX_quiet rfl (by kernel_rfl) rfl ?_; go_wp2; refine ⟨rfl, ?_⟩)
    refine wpX_nil ?_; simp only [List.drop_succ_cons, List.drop_zero]
    go_wp2_with fail
    rw [HV.out]
    have HII := Lib.hid hii; clear hii
    go_wp2
    go_ret
    refine ⟨ret_eq rfl, ⟨some ⟨gA, oA, none⟩, n, c, ?_, reads_set hr1 hA _, HNX.out, by have := HII.out; have := HNX.out; simp only; omega, hn, hBg, hA0⟩, ?_⟩
    · have := hw1.set 1 (.int .i64 ((i : Int) + 1))
      simp only [HS1.out, HS2.out]
      exact this
    · exact grown_trans hg1 (gdrew (gdrew (gdrew (grown_set w1 g 1 _))))
  · have hd : decide ((i : Int) < (n : Int)) = false := by simp; omega
    have hv := hno (by have := HNX.out; omega)
    injection hv with hv1 hst
    injection hst with hst1 hst2
    have HV := Lib.hid hv1
    have HS1 := Lib.hid hst1
    have HS2 := Lib.hid hst2
    have HMX := Lib.hid hmix
    clear hyes hno hv1 hst1 hst2 hmix
    go_enter Tryz.func56, Tryz.ntmps56
    go_wp2
    refine wp_region_x 13 [0, 1, 2, 3, 4, 5, 6, 7, 8, 9, 10, 11, 12] (by kernel_rfl) (by kernel_rfl) ?_
    iterate 13 (refine wpX_quiet rfl (by kernel_rfl) rfl ?_; go_wp2; refine ⟨rfl, ?_⟩)
    refine wpX_nil ?_; simp only [List.drop_succ_cons, List.drop_zero]
    go_wp2_with fail
    have hh : nxtH h = wrap64 (wrap64 (h * 6364136223846793005) + 1442695040888963407) := rfl
    rw [← hh]
    have HH := Lib.hid hh; clear hh
    rw [HMX.out, ← HV.out]
    have hrv : rv ≤ 255 := by rw [HV.out]; exact hmixb
    clear hmixb HMX HH
    generalize nxtH h = h' at *
    generalize h' / 8589934592 = q1
    generalize h' / 35184372088832 = q2
    generalize bits .xor .i64 q1 q2 = q3
    have hw1 : Blk (w.setCell ⟨g, 2, none⟩ (.int .i64 h')) g 71 [.slice A n c, .int .i64 (i : Int), .int .i64 h'].toArray := by
      have := hb.set 2 (.int .i64 h')
      exact this
    have hr1 := reads_set (k := 2) hr hA (.int .i64 h')
    have hg1 := grown_set w g 2 (.int .i64 h')
    generalize w.setCell ⟨g, 2, none⟩ (.int .i64 h') = w1 at hw1 hr1 hg1 ⊢
    clear c0 c1 c2 f1 f2 hb hr
    have c0 := blk_cell0 hw1 0 rfl
    have c1 := blk_cell0 hw1 1 rfl
    have f1 := hw1.frozen 1
    have HII := Lib.hid hii; clear hii
    go_wp2
    refine wp_region_x 10 [0, 1, 2, 3, 4, 5, 6, 7, 8, 9] (by kernel_rfl) (by kernel_rfl) ?_
    iterate 10 (refine wpX_quiet rfl (by kernel_rfl) rfl ?_; go_wp2; refine ⟨rfl, ?_⟩)
    refine wpX_nil ?_; simp only [List.drop_succ_cons, List.drop_zero]
    go_wp2
    go_ret
    refine ⟨ret_eq rfl, ⟨A, n, c, ?_, hr1, HNX.out, by have := HII.out; have := HNX.out; simp only; omega, hn, hBg, hA0⟩, gdrew (gdrew hg1)⟩
    simp only [HS1.out, HS2.out]
    exact hw1
set_option maxRecDepth 100000 in
set_option maxHeartbeats 1000000 in
theorem l1Below_x (B g n : Nat) (xs : List UInt8) (s : DSt) (w : World) (hc : Cur B g xs s w) (h1 : 1 ≤ n) (h2 : n ≤ 1000000000) :
    Calls Tryz.prog 31 #[.pointer (some ⟨g, 0, none⟩), .int .i64 (n : Int)] w fun e w' => e = .returned (.int .i64 ((belowF xs n s).1 : Int)) ∧ Cur B g xs (belowF xs n s).2 w' ∧ w.grownBy w' (some g) := by
  have hd1 : decide ((n : Int) ≤ 0) = false := by simp; omega
  have hne : ((n : Int) == 0) = false := by simp; omega
  unfold belowF
  by_cases hs : n ≤ 256
  · rw [if_pos hs]
    have hd2 : decide ((n : Int) ≤ 256) = true := by simp; omega
    have hb := byteF_le xs s
    have H1 := Lib.hid (fun w hc => l1Byte_x B g xs s w hc)
    generalize byteF xs s = R at *
    obtain ⟨rv, rs⟩ := R
    simp only [] at hb ⊢
    go_enter Tryz.func31, Tryz.ntmps31
    go_wp2_with fail
    refine (H1.out _ hc).mono ?_
    rintro e w2 ⟨rfl, hc2, hg⟩
    have HC := Lib.hid hc2; clear hc2
    have HG := Lib.hid hg; clear hg
    go_wp2
    go_ret
    exact ⟨ret_eq (by first | rfl | simp), HC.out, HG.out⟩
  · rw [if_neg hs]
    have hd2 : decide ((n : Int) ≤ 256) = false := by simp; omega
    have hb1 := byteF_le xs s
    have hb2 := byteF_le xs (byteF xs s).2
    have hb3 := byteF_le xs (byteF xs (byteF xs s).2).2
    have hb4 := byteF_le xs (byteF xs (byteF xs (byteF xs s).2).2).2
    have T1 := Lib.hid (fun w hc => l1Byte_x B g xs s w hc)
    have T2 := Lib.hid (fun w hc => l1Byte_x B g xs (byteF xs s).2 w hc)
    have T3 := Lib.hid (fun w hc => l1Byte_x B g xs (byteF xs (byteF xs s).2).2 w hc)
    have T4 := Lib.hid (fun w hc => l1Byte_x B g xs (byteF xs (byteF xs (byteF xs s).2).2).2 w hc)
    simp only []
    generalize byteF xs (byteF xs (byteF xs (byteF xs s).2).2).2 = R4 at *
    generalize byteF xs (byteF xs (byteF xs s).2).2 = R3 at *
    generalize byteF xs (byteF xs s).2 = R2 at *
    generalize byteF xs s = R1 at *
    obtain ⟨r4, s4⟩ := R4
    obtain ⟨r3, s3⟩ := R3
    obtain ⟨r2, s2⟩ := R2
    obtain ⟨r1, s1⟩ := R1
    simp only [] at hb1 hb2 hb3 hb4 ⊢
    go_enter Tryz.func31, Tryz.ntmps31
    go_wp2_with fail
    refine (T1.out _ hc).mono ?_
    rintro e w2 ⟨rfl, hc2, hg2⟩
    have H2 := Lib.hid hg2; clear hg2 hc
    go_wp2_with fail
    refine (T2.out _ hc2).mono ?_
    rintro e w3 ⟨rfl, hc3, hg3⟩
    have H3 := Lib.hid (grown_trans H2.out hg3); clear hg3 hc2 H2
    go_wp2_with fail
    refine (T3.out _ hc3).mono ?_
    rintro e w4 ⟨rfl, hc4, hg4⟩
    have H4 := Lib.hid (grown_trans H3.out hg4); clear hg4 hc3 H3
    go_wp2_with fail
    refine (T4.out _ hc4).mono ?_
    rintro e w5 ⟨rfl, hc5, hg5⟩
    have H5 := Lib.hid (grown_trans H4.out hg5); clear hg5 hc4 H4
    have HC := Lib.hid hc5; clear hc5
    go_wp2
    go_ret
    exact ⟨ret_eq (by first | rfl | simp | (congr 1; push_cast; rfl)), HC.out, H5.out⟩

end Go.Proofs.YtonaacdefidomaaGreat
namespace Go.Proofs.YtonaacdefidomaaGreat
open Go.RowKit

/-- the cursor; blocks bl; data ow that is owned; each block once -/
structure DW (B g : Nat) (xs : List UInt8) (w0 : World) (bl : List (Nat × Nat × List Value)) (ow : List (Cs × List Value × List Nat)) (s : DSt) (w : World) : Prop where
  gr : w0.grownBy w (some g)
  cu : Cur B g xs s w
  gl : g < w0.heap.size
  bk : ∀ p ∈ bl, w0.heap.size ≤ p.1 ∧ Blk w p.1 p.2.1 p.2.2.toArray
  on : ∀ p ∈ ow, Own w w0.heap.size p.1 p.2.1 p.2.2
  nd : (bl.map (fun p => p.1) ++ (ow.map (fun p => p.2.2)).flatten).Nodup
section
variable {B g : Nat} {xs : List UInt8} {w0 w w' : World} {bl : List (Nat × Nat × List Value)} {ow : List (Cs × List Value × List Nat)} {s s' : DSt}
theorem DW.start (hc : Cur B g xs s w) : DW B g xs w [] [] s w :=
  ⟨⟨rfl, rfl, rfl, Nat.le_refl _, fun _ _ _ => rfl⟩, hc, hc.lt, fun p hp => (by cases hp), fun p hp => (by cases hp), List.nodup_nil⟩
theorem DW.inB (h : DW B g xs w0 bl ow s w) {b : Nat} (hb : b ∈ bl.map (fun p => p.1) ++ (ow.map (fun p => p.2.2)).flatten) : w0.heap.size ≤ b ∧ b < w.heap.size := by
  rcases List.mem_append.1 hb with hb | hb
  · obtain ⟨p, hp, rfl⟩ := List.mem_map.1 hb
    exact ⟨(h.bk p hp).1, (h.bk p hp).2.lt⟩
  · obtain ⟨F, hF, hb⟩ := List.mem_flatten.1 hb
    obtain ⟨p, hp, rfl⟩ := List.mem_map.1 hF
    exact (h.on p hp).in b hb
/-- all that is there is left as it was, but for what is not of ours -/
theorem DW.keep (h : DW B g xs w0 bl ow s w) {r : Option Nat} (hc : Cur B g xs s' w') (hg : w.grownBy w' r) (hr : ∀ k, r = some k → k = g ∨ (w0.heap.size ≤ k ∧ k ∉ bl.map (fun p => p.1) ++ (ow.map (fun p => p.2.2)).flatten)) : DW B g xs w0 bl ow s' w' := by
  have hne : ∀ b, b ∈ bl.map (fun p => p.1) ++ (ow.map (fun p => p.2.2)).flatten → some b ≠ r := fun b hb e => by
    rcases hr b e.symm with h1 | ⟨_, h1⟩
    · have := (h.inB hb).1
      have := h.gl
      omega
    · exact h1 hb
  refine ⟨⟨hg.os.trans h.gr.os, hg.tape.trans h.gr.tape, hg.output.trans h.gr.output, Nat.le_trans h.gr.size hg.size, fun k hk hn => ?_⟩, hc, h.gl, fun p hp => ⟨(h.bk p hp).1, (h.bk p hp).2.keep (hg.block _ (h.bk p hp).2.lt (hne _ (List.mem_append.2 (.inl (List.mem_map.2 ⟨p, hp, rfl⟩)))))⟩, fun p hp => (h.on p hp).keep (fun b hb => hg.block _ ((h.on p hp).in b hb).2 (hne _ (List.mem_append.2 (.inr (List.mem_flatten.2 ⟨_, List.mem_map.2 ⟨p, hp, rfl⟩, hb⟩))))), h.nd⟩
  have hk2 : k < w.heap.size := Nat.lt_of_lt_of_le hk h.gr.size
  refine (hg.block k hk2 (fun e => ?_)).trans (h.gr.block k hk hn)
  rcases hr k e.symm with h1 | ⟨h1, _⟩
  · exact hn (by rw [h1])
  · omega
theorem DW.call (h : DW B g xs w0 bl ow s w) (hc : Cur B g xs s' w') (hg : w.grownBy w' (some g)) : DW B g xs w0 bl ow s' w' := h.keep hc hg (fun k hk => .inl (by injection hk with hk; exact hk.symm))
theorem DW.none_ (h : DW B g xs w0 bl ow s w) (hg : w.grownBy w' none) : DW B g xs w0 bl ow s w' := h.keep (h.cu.keep hg (fun k hk => by cases hk)) hg (fun k hk => by cases hk)
theorem DW.below (h : DW B g xs w0 bl ow s w) (hb : Below w.heap.size w w') : DW B g xs w0 bl ow s w' := h.none_ ⟨hb.os, hb.tape, hb.output, hb.size, fun k hk _ => hb.block k hk⟩
theorem DW.alloc (h : DW B g xs w0 bl ow s w) (o : Obj) : DW B g xs w0 bl ow s (w.alloc o) := h.none_ (grown_alloc w o)
theorem DW.drew (h : DW B g xs w0 bl ow s w) : DW B g xs w0 bl ow s w.drew := h.none_ ⟨rfl, rfl, rfl, Nat.le_refl _, fun _ _ _ => rfl⟩
/-- a block of one's own that is written -/
theorem DW.put {b t : Nat} {L L' : List Value} {l r : List (Nat × Nat × List Value)} (h : DW B g xs w0 (l ++ (b, t, L) :: r) ow s w) (hg : w.grownBy w' (some b)) (hb : Blk w' b t L'.toArray) : DW B g xs w0 (l ++ (b, t, L') :: r) ow s w' := by
  have hm : (b, t, L) ∈ l ++ (b, t, L) :: r := by simp
  have h0 := (h.bk _ hm).1
  have hgl := h.gl
  have hnd := h.nd
  have hc : Cur B g xs s w' := h.cu.keep hg (fun k hk => by injection hk with hk; simp only at h0; omega)
  have h1 : DW B g xs w0 (l ++ r) ow s w := by
    refine ⟨h.gr, h.cu, h.gl, fun p hp => h.bk p ?_, h.on, ?_⟩
    · rcases List.mem_append.1 hp with hp | hp
      · exact List.mem_append.2 (.inl hp)
      · exact List.mem_append.2 (.inr (List.mem_cons_of_mem _ hp))
    · refine List.Nodup.sublist ?_ hnd
      refine List.Sublist.append_right (List.Sublist.map _ ?_) _
      exact List.Sublist.append_left (List.sublist_cons_self _ _) _
  have hbn : b ∉ (l ++ r).map (fun p => p.1) ++ (ow.map (fun p => p.2.2)).flatten := by
    intro hx
    rw [List.map_append, List.map_cons, List.append_assoc, List.nodup_append] at hnd
    obtain ⟨_, n2, d⟩ := hnd
    rw [List.cons_append, List.nodup_cons] at n2
    rw [List.map_append, List.append_assoc] at hx
    rcases List.mem_append.1 hx with hx | hx
    · exact d b hx b (by simp) rfl
    · exact n2.1 hx
  have h2 := h1.keep hc hg (fun k hk => .inr ⟨by injection hk with hk; rw [← hk]; exact h0, by injection hk with hk; rw [← hk]; exact hbn⟩)
  refine ⟨h2.gr, h2.cu, h2.gl, fun p hp => ?_, h2.on, ?_⟩
  · rcases List.mem_append.1 hp with hp | hp
    · exact h2.bk p (List.mem_append.2 (.inl hp))
    · rcases List.mem_cons.1 hp with rfl | hp
      · exact ⟨h0, hb⟩
      · exact h2.bk p (List.mem_append.2 (.inr hp))
  · simpa using hnd
/-- a new block -/
theorem DW.new (h : DW B g xs w0 bl ow s w) {b t : Nat} {L : List Value} (hg : w.grownBy w' none) (hb : w.heap.size ≤ b) (hk : Blk w' b t L.toArray) : DW B g xs w0 ((b, t, L) :: bl) ow s w' := by
  have h2 := h.none_ hg
  refine ⟨h2.gr, h2.cu, h2.gl, fun p hp => ?_, h2.on, ?_⟩
  · rcases List.mem_cons.1 hp with rfl | hp
    · exact ⟨Nat.le_trans h.gr.size hb, hk⟩
    · exact h2.bk p hp
  · rw [List.map_cons, List.cons_append, List.nodup_cons]
    refine ⟨fun hx => ?_, h.nd⟩
    have := (h.inB hx).2
    simp only at this
    omega
theorem DW.newA (h : DW B g xs w0 bl ow s w) (t : Nat) (L : List Value) : DW B g xs w0 ((w.heap.size, t, L) :: bl) ow s (w.alloc (.cells L.toArray t)) := h.new (grown_alloc w _) (Nat.le_refl _) (blk_new w _ _)
theorem DW.cast {b b' t : Nat} {L : List Value} (h : DW B g xs w0 ((b, t, L) :: bl) ow s w) (e : b = b') : DW B g xs w0 ((b', t, L) :: bl) ow s w := by subst e; exact h
/-- new data of one's own -/
theorem DW.mine (h : DW B g xs w0 bl ow s w) {r : Option Nat} {d : Cs} {cs : List Value} (hc : Cur B g xs s' w') (hg : w.grownBy w' r) (hr : r = none ∨ r = some g) (hm : Mine w' w.heap.size d cs) : ∃ F, DW B g xs w0 bl ((d, cs, F) :: ow) s' w' := by
  have h2 := h.keep hc hg (fun k hk => by rcases hr with rfl | rfl; (· cases hk); (· injection hk with hk; exact .inl hk.symm))
  obtain ⟨F, hn, ho⟩ := hm
  refine ⟨F, h2.gr, h2.cu, h2.gl, h2.bk, fun p hp => ?_, ?_⟩
  · rcases List.mem_cons.1 hp with rfl | hp
    · exact ho.mono h.gr.size
    · exact h2.on p hp
  · have hnd := h.nd
    rw [List.nodup_append] at hnd
    obtain ⟨n1, n2, d1⟩ := hnd
    rw [List.map_cons, List.flatten_cons, List.nodup_append]
    refine ⟨n1, List.nodup_append.2 ⟨hn, n2, fun a ha c hc' e => ?_⟩, fun a ha c hc' e => ?_⟩
    · subst e
      have := (ho.in a ha).1
      have := (h.inB (List.mem_append.2 (.inr hc'))).2
      omega
    · subst e
      rcases List.mem_append.1 hc' with hc' | hc'
      · have := (ho.in a hc').1
        have := (h.inB (List.mem_append.2 (.inl ha))).2
        omega
      · exact d1 a ha a hc' rfl
/-- data of one's own put together anew -/
theorem DW.own (h : DW B g xs w0 bl ow s w) (ow' : List (Cs × List Value × List Nat)) (ho : ∀ p ∈ ow', Own w w0.heap.size p.1 p.2.1 p.2.2) (hs : ∀ b ∈ (ow'.map (fun p => p.2.2)).flatten, b ∈ (ow.map (fun p => p.2.2)).flatten) (hn : (ow'.map (fun p => p.2.2)).flatten.Nodup) : DW B g xs w0 bl ow' s w := by
  refine ⟨h.gr, h.cu, h.gl, h.bk, ho, ?_⟩
  have hnd := h.nd
  rw [List.nodup_append] at hnd ⊢
  exact ⟨hnd.1, hn, fun a ha c hc e => hnd.2.2 a ha c (hs c hc) e⟩
theorem DW.set {b t : Nat} {L : List Value} {l r : List (Nat × Nat × List Value)} (h : DW B g xs w0 (l ++ (b, t, L) :: r) ow s w) (f : Nat) (v : Value) : DW B g xs w0 (l ++ (b, t, L.set f v) :: r) ow s (w.setCell ⟨b, f, none⟩ v) :=
  h.put (grown_set w b f v) (blk_put0 (h.bk (b, t, L) (by simp)).2 f v)
theorem DW.forget (h : DW B g xs w0 bl ow s w) : DW B g xs w0 [] ow s w := ⟨h.gr, h.cu, h.gl, fun p hp => (by cases hp), h.on, (List.nodup_append.1 h.nd).2.1⟩
theorem DW.bare (h : DW B g xs w0 bl ow s w) : DW B g xs w0 [] [] s w := ⟨h.gr, h.cu, h.gl, fun p hp => (by cases hp), fun p hp => (by cases hp), List.nodup_nil⟩
theorem DW.add (h : DW B g xs w0 [] [] s w) {d : Cs} {cs : List Value} {F : List Nat} (ho : Own w w0.heap.size d cs F) (hn : F.Nodup) : DW B g xs w0 [] [(d, cs, F)] s w :=
  ⟨h.gr, h.cu, h.gl, h.bk, fun p hp => by rcases List.mem_singleton.1 hp with rfl; exact ho, by simpa using hn⟩
theorem DW.b0 {b t : Nat} {L : List Value} {l r : List (Nat × Nat × List Value)} (h : DW B g xs w0 (l ++ (b, t, L) :: r) ow s w) : Blk w b t L.toArray := (h.bk (b, t, L) (by simp)).2
theorem DW.o0 {d : Cs} {cs : List Value} {F : List Nat} {l r : List (Cs × List Value × List Nat)} (h : DW B g xs w0 bl (l ++ (d, cs, F) :: r) s w) : Own w w0.heap.size d cs F := h.on (d, cs, F) (by simp)
theorem DW.ownNd (h : DW B g xs w0 bl ow s w) : (ow.map (fun p => p.2.2)).flatten.Nodup := (List.nodup_append.1 h.nd).2.1
end

theorem set_mid {α : Type} (a b c : List α) (j : Nat) (u : α) (hj : j < b.length) : (a ++ (b ++ c)).set (a.length + j) u = a ++ (b.set j u ++ c) := by
  rw [List.set_append_right _ _ (by omega), Nat.add_sub_cancel_left, List.set_append_left _ _ hj]
theorem nodup_mid3 {α : Type} {g : α} {a b b' c : List α} (h : (g :: (a ++ (b ++ c))).Nodup) (hb : b'.Nodup) (hm : ∀ x ∈ b', x ∈ b ∨ x ∉ g :: (a ++ (b ++ c))) : (g :: (a ++ (b' ++ c))).Nodup := by
  rw [List.nodup_cons, List.nodup_append, List.nodup_append] at h ⊢
  obtain ⟨h1, h2, ⟨h3, h4, h5⟩, h6⟩ := h
  refine ⟨fun hx => ?_, h2, ⟨hb, h4, fun x hx y hy e => ?_⟩, fun x hx y hy e => ?_⟩
  · rcases List.mem_append.1 hx with hx | hx
    · exact h1 (by simp [hx])
    · rcases List.mem_append.1 hx with hx | hx
      · rcases hm g hx with hx | hx
        · exact h1 (by simp [hx])
        · exact hx (by simp)
      · exact h1 (by simp [hx])
  · subst e
    rcases hm x hx with hx | hx
    · exact h5 x hx x hy rfl
    · exact hx (by simp [hy])
  · subst e
    rcases List.mem_append.1 hy with hy | hy
    · rcases hm x hy with hy | hy
      · exact h6 x hx x (by simp [hy]) rfl
      · exact hy (by simp [hx])
    · exact h6 x hx x (by simp [hy]) rfl
/-- an element of a row of one's own, and what a store into one of its cells leaves -/
theorem own_putE {w : World} {base e sz n c : Nat} {α : Type} {f : α → Cs} {xs : List α} {A : Option Addr} {F : List Nat} (hf : ∀ x, (f x).width = sz) (h : Own w base (.sl e sz n (cat f xs) .nil) [.slice A n c] F) (hn : n = xs.length) (hnd : F.Nodup) (k : Nat) (hk : k < xs.length) :
    ∃ (gA : Nat) (ci : List Value) (Fk : List Nat), A = some ⟨gA, 0, none⟩ ∧ base ≤ gA ∧ gA < w.heap.size ∧ gA ∈ F ∧ gA ∉ Fk ∧ Own w base (f xs[k]) ci Fk ∧ Fk.Nodup ∧ (∀ b ∈ Fk, b ∈ F) ∧ (∀ j u, ci[j]? = some u → w.cell? ⟨gA, k * sz + j, none⟩ = some u) ∧ (∀ j, w.frozen? ⟨gA, j, none⟩ = false) ∧
      ∀ (w2 : World) (j : Nat) (u : Value) (y : α) (Fk' : List Nat), j < sz → w2.heap[gA]? = (w.setCell ⟨gA, k * sz + j, none⟩ u).heap[gA]? → (∀ b ∈ F, b ∉ Fk → b ≠ gA → w2.heap[b]? = w.heap[b]?) → Own w2 base (f y) (ci.set j u) Fk' → (∀ b ∈ Fk', b ∈ Fk ∨ b ∉ F) → Fk'.Nodup →
        ∃ F', F'.Nodup ∧ Own w2 base (.sl e sz n (cat f (xs.set k y)) .nil) [.slice A n c] F' := by
  obtain ⟨cells, F1, rfl, hw, hr, hi⟩ := Own.sl1.1 h
  have hr0 := hr
  rw [cat_split xs k hk] at hi
  obtain ⟨c1, c2, Fa, F2, rfl, rfl, h1, h2⟩ := Own.app.1 hi
  obtain ⟨ci, c3, Fk, Fb, rfl, rfl, h2, h3⟩ := Own.app.1 h2
  have hl1 : c1.length = k * sz := by rw [h1.length, cat_width hf, List.length_take, Nat.min_eq_left (by omega)]
  have hli : ci.length = sz := by rw [h2.length, hf]
  rcases hr.2 with ⟨_, h0⟩ | ⟨g, cap, cur, hv, hb, hh, _⟩
  · omega
  · injection hv with e1 e2 e3
    subst e1 e3
    have hob : (Value.slice (some ⟨g, 0, none⟩) n c).ownBlock.toList = [g] := rfl
    rw [hob] at hnd
    have hnd2 : (g :: (Fa ++ (Fk ++ Fb))).Nodup := hnd
    have hgk : g ∉ Fk := fun hx => (List.nodup_cons.1 hnd2).1 (by simp [hx])
    refine ⟨g, ci, Fk, rfl, hb, (Array.getElem?_eq_some_iff.1 hh).1, by rw [hob]; simp, hgk, h2, ?_, fun b hb => by rw [hob]; simp [hb], fun j u hu => ?_, fun j => hr.frozenAt j, fun w2 j u y Fk' hj hg2 hk2 ho2 hm2 hn2 => ?_⟩
    · have := (List.nodup_cons.1 hnd2).2
      exact (List.nodup_append.1 (List.nodup_append.1 this).2.1).1
    · have hjl := (List.getElem?_eq_some_iff.1 hu).1
      have hlt : k * sz + j < n * sz := by
        have h4 : k * sz + sz ≤ n * sz := by rw [← Nat.succ_mul]; exact Nat.mul_le_mul_right _ (by omega)
        omega
      rw [hr.cellAt _ hlt, ← hl1, List.getElem?_append_right (by omega), Nat.add_sub_cancel_left, List.getElem?_append_left hjl]
      exact hu
    · rw [hob] at hk2 hm2
      have hst := (hr.stored (k * sz + j) u).1
      rw [← hl1, set_mid c1 ci c3 j u (by omega), hl1] at hst
      have hr2 := ownsRow_keep (base' := base) hst (w' := w2) (fun b hb2 => by
        have e4 : b = g := by simpa [Value.ownBlock] using hb2.symm
        subst e4
        exact ⟨hb, hg2⟩)
      have hg1 := (List.nodup_cons.1 hnd2).1
      have hnn := (List.nodup_cons.1 hnd2).2
      have ha := h1.keep0 (w' := w2) (base' := base) (fun b hb2 => ⟨(h1.in b hb2).1, hk2 b (by simp [hb2]) (fun hx => (List.nodup_append.1 hnn).2.2 b hb2 b (by simp [hx]) rfl) (fun e4 => hg1 (by rw [← e4]; simp [hb2]))⟩)
      have hc := h3.keep0 (w' := w2) (base' := base) (fun b hb2 => ⟨(h3.in b hb2).1, hk2 b (by simp [hb2]) (fun hx => (List.nodup_append.1 (List.nodup_append.1 hnn).2.1).2.2 b hx b hb2 rfl) (fun e4 => hg1 (by rw [← e4]; simp [hb2]))⟩)
      refine ⟨(Value.slice (some ⟨g, 0, none⟩) n c).ownBlock.toList ++ (Fa ++ (Fk' ++ Fb)), ?_, Own.sl1.2 ⟨_, _, rfl, ?_, hr2, ?_⟩⟩
      · rw [hob]
        exact nodup_mid3 (g := g) (a := Fa) (b := Fk) (b' := Fk') (c := Fb) hnd2 hn2 (fun x hx => by simpa using hm2 x hx)
      · rw [cat_width hf, List.length_set, hn]
      · rw [cat_split (xs.set k y) k (by simpa using hk)]
        refine Own.app.2 ⟨_, _, _, _, rfl, rfl, ?_, Own.app.2 ⟨_, _, _, _, rfl, rfl, ?_, ?_⟩⟩
        · rw [List.take_set_of_le (Nat.le_refl _)]; exact ha
        · rw [List.getElem_set_self]; exact ho2
        · rw [List.drop_set_of_lt (by omega)]; exact hc
end Go.Proofs.YtonaacdefidomaaGreat
namespace Go.Proofs.YtonaacdefidomaaGreat
open Go.RowKit
section
variable {P : Program} {md : Region.Mode} {ops : Array Oper}

/-! ### the invariant: what is listed is closed under what it waits for; the floats are listed -/
structure FInv (md : Region.Mode) (ops : Array Oper) (fl : List Nat) (listed : Array Bool) : Prop where
  closed : ∀ j oj, ops[j]? = some oj → listed.getD j false = true → ∀ e ∈ oj.after, Region.binds md e = true → listed.getD e.on false = true
  floats : ∀ t ∈ fl, listed.getD t true = true
theorem FInv.set {fl : List Nat} {i : Nat} {listed : Array Bool} (inv : FInv md ops fl listed) (hi : i ∈ Region.ready md ops listed) : FInv md ops fl (listed.setIfInBounds i true) := by
  obtain ⟨_, oi, hoi, hall⟩ := mem_ready.1 hi
  refine ⟨fun j oj hj hl e he hb => ?_, fun t ht => ?_⟩
  · by_cases hij : i = j
    · subst hij
      have : oj = oi := Option.some.inj (hj.symm.trans hoi)
      subst this
      exact getD_set_true (hall e he hb)
    · rw [getD_set_ne false hij] at hl
      exact getD_set_true (inv.closed j oj hj hl e he hb)
  · by_cases hij : i = t
    · subst hij
      rcases Nat.lt_or_ge i listed.size with h | h
      · simp [h]
      · simp [h]
    · rw [getD_set_ne true hij]
      exact inv.floats t ht
def waitsB (md : Region.Mode) (ops : Array Oper) : Nat → Nat → Nat → Bool
  | 0, _, _ => false
  | f + 1, t, i => match ops[t]? with
    | none => false
    | some o => o.after.toList.any fun e => Region.binds md e && (e.on == i || waitsB md ops f e.on i)
theorem waitsB_listed {fl : List Nat} {listed : Array Bool} (inv : FInv md ops fl listed) : ∀ (f t i : Nat), listed.getD t false = true → waitsB md ops f t i = true → listed.getD i false = true
  | 0, _, _, _, h => by simp [waitsB] at h
  | f + 1, t, i, ht, h => by
    simp only [waitsB] at h
    split at h
    · cases h
    · rename_i o ho
      obtain ⟨e, he, hb⟩ := List.any_eq_true.1 h
      simp only [Bool.and_eq_true, Bool.or_eq_true, beq_iff_eq] at hb
      have hl := inv.closed t o ho ht e (by simpa using he) hb.1
      rcases hb.2 with h1 | h1
      · rw [← h1]; exact hl
      · exact waitsB_listed inv f e.on i hl h1
theorem ready_waits {fl : List Nat} {listed : Array Bool} (inv : FInv md ops fl listed) {f t i : Nat} (ht : t ∈ Region.ready md ops listed) (h : waitsB md ops f t i = true) : listed.getD i false = true := by
  obtain ⟨_, o, ho, hall⟩ := mem_ready.1 ht
  cases f with
  | zero => simp [waitsB] at h
  | succ f =>
    simp only [waitsB, ho] at h
    obtain ⟨e, he, hb⟩ := List.any_eq_true.1 h
    simp only [Bool.and_eq_true, Bool.or_eq_true, beq_iff_eq] at hb
    have hl := hall e (by simpa using he) hb.1
    rcases hb.2 with h1 | h1
    · rw [← h1]; exact hl
    · exact waitsB_listed inv f e.on i hl h1
/-- the head is done before anything but a float of the tail comes up -/
def blockB (md : Region.Mode) (ops : Array Oper) (n : Nat) (fl : List Nat) : Bool :=
  (List.range ops.size).all fun t => decide (t < n) || fl.contains t || (List.range n).all fun i => fl.contains i || waitsB md ops ops.size t i
def BlocksF (md : Region.Mode) (ops : Array Oper) (n : Nat) (fl : List Nat) : Prop := ∀ listed, FInv md ops fl listed → ∀ i, i < n → listed.getD i true = false → ∀ t ∈ Region.ready md ops listed, t < n
theorem blocksF_of {n : Nat} {fl : List Nat} (h : blockB md ops n fl = true) : BlocksF md ops n fl := by
  intro listed inv i hin hun t ht
  have hts : t < ops.size := by
    obtain ⟨_, o, ho, _⟩ := mem_ready.1 ht
    exact (Array.getElem?_eq_some_iff.1 ho).1
  have h1 := List.all_eq_true.1 h t (List.mem_range.2 hts)
  simp only [Bool.or_eq_true, decide_eq_true_eq] at h1
  rcases h1 with (h1 | h1) | h1
  · exact h1
  · have h2 := inv.floats t (by simpa using h1)
    have h3 := (mem_ready.1 ht).1
    rw [h2] at h3; cases h3
  · have h2 := List.all_eq_true.1 h1 i (List.mem_range.2 hin)
    simp only [Bool.or_eq_true] at h2
    rcases h2 with h2 | h2
    · have h3 := inv.floats i (by simpa using h2)
      rw [h3] at hun; cases hun
    · have h3 := ready_waits inv ht h2
      rw [getD_both hun] at h3; cases h3

theorem take_firstF {n i : Nat} {fl : List Nat} {oi : Oper} {v : Value} {C : World → Prop} {L : Array Bool → Act → World → Prop} (hi : ops[i]? = some oi) (hsel : ∀ (j : Nat) (o : Oper) cs b, ops[j]? = some o → o.op ≠ .select cs b)
    (hblk : BlocksF md ops n fl) (hin : i < n) (hdone : ∀ listed a w, L listed a w → ∀ j ∈ Region.ready md ops listed, n ≤ j) :
    ∀ (f : Nat) (listed : Array Bool) (a : Act) (w : World), FInv md ops fl listed →
      (∀ j oj, ops[j]? = some oj → j ≠ i → listed.getD j true = false → (∀ e ∈ oj.after, Region.binds md e = true → e.on ≠ i) → oi.apart ops oj = true) →
      i ∈ Region.ready md ops listed → YieldsE P ops C oi v a → C w →
      wpAnyC P md ops n C L f (listed.setIfInBounds i true) (a.put oi.dst v) w → wpAnyC P md ops n C L (f + 1) listed a w := by
  intro f
  induction f with
  | zero =>
    intro listed a w inv _ hr hy hw H
    have hun := (mem_ready.1 hr).1
    refine ⟨hw, fun h => (by rw [h] at hr; cases hr), fun j hj => ?_⟩
    have hjn := hblk listed inv i hin hun j hj
    refine ⟨hjn, ?_⟩
    by_cases hji : j = i
    · subst hji
      exact hy.go hi hw H
    · have := hdone _ _ _ H.2 j (ready_mono hj hji)
      omega
  | succ f ih =>
    intro listed a w inv hfree hr hy hw H
    have hun := (mem_ready.1 hr).1
    refine ⟨hw, fun h => (by rw [h] at hr; cases hr), fun j hj => ?_⟩
    have hjn := hblk listed inv i hin hun j hj
    refine ⟨hjn, ?_⟩
    by_cases hji : j = i
    · subst hji
      exact hy.go hi hw H
    · have h1 := (H.2.2 j (ready_mono hj hji)).2
      obtain ⟨hjun, oj, hoj, hall⟩ := mem_ready.1 hj
      have hnot : ∀ e ∈ oj.after, Region.binds md e = true → e.on ≠ i := fun e he hb heq => by
        have h1 := hall e he hb
        rw [heq, getD_both hun] at h1
        cases h1
      have h2 := move_past hoj (hfree j oj hoj hji hjun hnot) (fun cs b => hsel i oi cs b hi) (fun cs b => hsel j oj cs b hoj) hy h1
      have hfree' : ∀ k ok, ops[k]? = some ok → k ≠ i → (listed.setIfInBounds j true).getD k true = false →
          (∀ e ∈ ok.after, Region.binds md e = true → e.on ≠ i) → oi.apart ops ok = true := fun k ok hk hki hun2 hno => by
        refine hfree k ok hk hki ?_ hno
        by_cases hjk : j = k
        · subst hjk; exact hjun
        · rw [getD_set_ne true hjk] at hun2; exact hun2
      refine wpOp_mono (fun a' w' h3 => ?_) h2
      have hcw : C w' := by
        cases f with
        | zero => exact h3.2.1
        | succ f => exact h3.2.1
      refine ih (listed.setIfInBounds j true) a' w' (inv.set hj) hfree' (ready_mono hr (Ne.symm hji)) h3.1 hcw ?_
      rw [Array.setIfInBounds_comm _ _ hji]
      exact h3.2

/-! ### a head in one order: reads, structs built, actors -/
def buildOf : Op → Option (TypeId × Array (Nat × Operand))
  | .build t parts => some (t, parts)
  | _ => none
theorem buildOf_spec {op : Op} {t : TypeId} {parts : Array (Nat × Operand)} (h : buildOf op = some (t, parts)) : op = .build t parts := by
  cases op <;> simp [buildOf] at h
  obtain ⟨rfl, rfl⟩ := h
  rfl
def wpH (P : Program) (ops : Array Oper) (Q : Exit → Act → World → Prop) (tail : List Oper) : List Nat → Act → World → Prop
  | [], a, w => wpList P ops Q tail a w
  | i :: r, a, w => match ops[i]? with
    | none => False
    | some o => match buildOf o.op with
      | some (t, parts) => o.guard = none ∧ ∃ cells, P.built t (parts.map fun (i, x) => (i, a.eval x)).toList = some cells ∧ wpH P ops Q tail r (a.put o.dst (.agg cells)) w
      | none =>
        if quietKind P o.op = true then (Region.wanted o (yielded ops a.tmps) = true → plainB o a = true) ∧ wpList P ops (stopQ w (wpH P ops Q tail r)) [o] a w
        else wpList P ops (stopA w (wpH P ops Q tail r)) [o] a w
section
variable {Q : Exit → Act → World → Prop} {tail : List Oper} {i : Nat} {r : List Nat} {a : Act} {w : World} {o : Oper}
theorem wpH_build (hi : ops[i]? = some o) {t : TypeId} {parts : Array (Nat × Operand)} (hb : buildOf o.op = some (t, parts)) (hg : o.guard = none) (cells : Array Value) (hc : P.built t (parts.map fun (i, x) => (i, a.eval x)).toList = some cells)
    (h : wpH P ops Q tail r (a.put o.dst (.agg cells)) w) : wpH P ops Q tail (i :: r) a w := by
  simp only [wpH, hi, hb]; exact ⟨hg, cells, hc, h⟩
theorem wpH_quiet (hi : ops[i]? = some o) (hb : buildOf o.op = none) (hk : quietKind P o.op = true) (hp : plainB o a = true)
    (h : wpList P ops (stopQ w (wpH P ops Q tail r)) [o] a w) : wpH P ops Q tail (i :: r) a w := by
  simp only [wpH, hi, hb, hk, if_true]
  exact ⟨fun _ => hp, h⟩
theorem wpH_actor (hi : ops[i]? = some o) (hb : buildOf o.op = none) (hk : quietKind P o.op = false)
    (h : wpList P ops (stopA w (wpH P ops Q tail r)) [o] a w) : wpH P ops Q tail (i :: r) a w := by
  simp only [wpH, hi, hb, hk, Bool.false_eq_true, if_false]
  exact h
theorem wpH_nil (h : wpList P ops Q tail a w) : wpH P ops Q tail [] a w := h
end
theorem execOp_build {a : Act} {o : Oper} {t : TypeId} {parts : Array (Nat × Operand)} (hb : buildOf o.op = some (t, parts)) {cells : Array Value} (hc : P.built t (parts.map fun (i, x) => (i, a.eval x)).toList = some cells) (w : World) :
    (execOp a.eval o).run P w = .ok (.value (.agg cells)) w := by
  obtain ⟨dst, op, type, pos, after, guard⟩ := o
  have := buildOf_spec hb
  simp only at this
  subst this
  show (do Pure.pure (Next.value (← Instr.build t (parts.map fun (i, x) => (i, a.eval x)))) : Sem Next).run P w = _
  rw [Sem.run_bind, run_build w t _ cells hc]
  simp only [Result.andThen, Sem.run_pure]

def headSimF (P : Program) (md : Region.Mode) (ops : Array Oper) (n : Nat) (seq : Array Bool → Bool) : List Nat → Array Bool → Bool
  | [], listed => seq listed
  | i :: r, listed => decide (i < n) && (match ops[i]? with
      | none => false
      | some o => if (buildOf o.op).isSome || quietKind P o.op then (Region.ready md ops listed).contains i && Region.free md ops listed i else decide (Region.ready md ops listed = [i])) &&
    headSimF P md ops n seq r (listed.setIfInBounds i true)

theorem wpAnyC_of_XF {n : Nat} {fl : List Nat} {Q : Exit → Act → World → Prop} {tail : List Oper} {seq : Array Bool → Bool} (hsel : ∀ (j : Nat) (o : Oper) cs b, ops[j]? = some o → o.op ≠ .select cs b) (hblk : BlocksF md ops n fl) (hseq : ∀ listed, seq listed = true → ∀ j ∈ Region.ready md ops listed, n ≤ j) :
    ∀ (r : List Nat) (listed : Array Bool) (a : Act) (w : World), FInv md ops fl listed → headSimF P md ops n seq r listed = true → wpH P ops Q tail r a w →
      wpAnyC P md ops n (Ext w) (fun listed' a' w' => seq listed' = true ∧ wpList P ops Q tail a' w') r.length listed a w
  | [], _, _, w, _, hB, h => ⟨Ext.refl w, hB, h⟩
  | i :: r, listed, a, w, inv, hB, h => by
    simp only [headSimF, Bool.and_eq_true, decide_eq_true_eq] at hB
    obtain ⟨⟨hin, hB1⟩, hB2⟩ := hB
    cases ho : ops[i]? with
    | none => rw [ho] at hB1; cases hB1
    | some o =>
      rw [ho] at hB1
      simp only [wpH, ho] at h
      simp only at hB1
      have hdone : ∀ (listed : Array Bool) (a : Act) (w : World), (seq listed = true ∧ wpList P ops Q tail a w) → ∀ j ∈ Region.ready md ops listed, n ≤ j := fun _ _ _ hx => hseq _ hx.1
      cases hbo : buildOf o.op with
      | some tp =>
        obtain ⟨t, parts⟩ := tp
        rw [hbo] at hB1 h
        simp only [Option.isSome_some, Bool.true_or, if_true, Bool.and_eq_true] at hB1
        have hr : i ∈ Region.ready md ops listed := by simpa using hB1.1
        obtain ⟨hg, cells, hc, hX⟩ := h
        have hw : Region.wanted o (yielded ops a.tmps) = true := by simp [Region.wanted, hg]
        exact take_firstF ho hsel hblk hin hdone r.length listed a w inv (fun j oj hj hne hun hno => Region.free_spec ho hB1.2 j oj hj hne hun hno) hr (.inl ⟨hw, fun w2 _ => execOp_build hbo hc w2⟩) (Ext.refl w)
          (wpAnyC_of_XF hsel hblk hseq r _ _ w (inv.set hr) hB2 hX)
      | none =>
      rw [hbo] at hB1 h
      simp only [Option.isSome_none, Bool.false_or] at hB1 h
      by_cases hk : quietKind P o.op = true
      · rw [if_pos hk] at hB1 h
        simp only [Bool.and_eq_true] at hB1
        have hr : i ∈ Region.ready md ops listed := by simpa using hB1.1
        obtain ⟨hp, h⟩ := h
        simp only [wpList] at h
        have key : ∃ v, YieldsE P ops (Ext w) o v a ∧ wpH P ops Q tail r (a.put o.dst v) w := by
          by_cases hw : Region.wanted o (yielded ops a.tmps) = true
          · rw [if_pos hw] at h
            rcases h with h | ⟨_, _, _, hx⟩
            · have hst := Stable.op (P := P) (o := o) (a := a) hk (hp hw)
              unfold Oper.wp at h
              cases hrun : (execOp a.eval o).run P w with
              | halt x w' =>
                rw [hrun] at h
                cases x <;> simp only [Oper.upon] at h
                exact h.elim
              | ok nx w' =>
                obtain ⟨rfl, hall⟩ := hst w nx w' hrun
                rw [hrun] at h
                have hval : ∃ v, nx = .value v := by
                  obtain ⟨dst, op, type, pos, after, guard⟩ := o
                  have fromVal : ∀ {s : Sem Value}, (do Pure.pure (Next.value (← s)) : Sem Next).run P w' = .ok nx w' → ∃ v, nx = .value v := fun {s} hs => by
                    rw [Sem.run_bind] at hs
                    cases hs2 : s.run P w' with
                    | halt _ _ => rw [hs2] at hs; cases hs
                    | ok v w2 =>
                      rw [hs2] at hs
                      simp only [Result.andThen, Sem.run_pure, Result.ok.injEq] at hs
                      exact ⟨v, hs.1.symm⟩
                  cases op <;> first | exact absurd hk Bool.false_ne_true | exact fromVal hrun | skip
                  case move x => simp only [execOp, Sem.run_pure, Result.ok.injEq] at hrun; exact ⟨_, hrun.1.symm⟩
                  case assign x => simp only [execOp, Sem.run_pure, Result.ok.injEq] at hrun; exact ⟨_, hrun.1.symm⟩
                  case pick c x y =>
                    simp only [execOp, Sem.run_bind] at hrun
                    cases hs2 : (asBool (a.eval c)).run P w' with
                    | halt _ _ => rw [hs2] at hrun; cases hrun
                    | ok v w2 =>
                      rw [hs2] at hrun
                      simp only [Result.andThen, Sem.run_pure, Result.ok.injEq] at hrun
                      exact ⟨_, hrun.1.symm⟩
                  case nilCheck x =>
                    have hp' := hp hw
                    simp only [plainB] at hp'
                    simp only [execOp] at hrun
                    split at hp'
                    · rename_i ad he
                      rw [he] at hrun
                      simp only [Sem.run_pure, Result.ok.injEq] at hrun
                      exact ⟨_, hrun.1.symm⟩
                    · cases hp'
                  case call c =>
                    obtain ⟨⟨x, t⟩, hc⟩ := Option.isSome_iff_exists.1 (show (lenCall c).isSome = true from hk)
                    have hc' := lenCall_spec hc
                    subst hc'
                    refine fromVal (s := Builtin.len_ #[t] type #[a.eval x]) ?_
                    rw [← hrun]
                    simp only [execOp, resolve, invoke, builtin, Sem.run_bind, Sem.run_pure, Result.andThen_ok, List.map_toArray, List.map_cons, List.map_nil]
                obtain ⟨v, rfl⟩ := hval
                simp only [Oper.upon] at h
                exact ⟨v, .inl ⟨hw, fun w2 hw2 => hall w2 hw2⟩, h.2⟩
            · exact hx.elim
          · rw [if_neg hw] at h
            exact ⟨undef, .inr ⟨by simpa using hw, rfl⟩, h.2⟩
        obtain ⟨v, hy, hX⟩ := key
        exact take_firstF ho hsel hblk hin hdone r.length listed a w inv (fun j oj hj hne hun hno => Region.free_spec ho hB1.2 j oj hj hne hun hno) hr hy (Ext.refl w)
          (wpAnyC_of_XF hsel hblk hseq r _ _ w (inv.set hr) hB2 hX)
      · rw [if_neg hk] at hB1 h
        have hready : Region.ready md ops listed = [i] := by simpa using hB1
        have hr : i ∈ Region.ready md ops listed := by rw [hready]; simp
        refine ⟨Ext.refl w, by rw [hready]; simp, fun j hj => ?_⟩
        rw [hready] at hj
        have hji : j = i := by simpa using hj
        subst hji
        refine ⟨hin, ?_⟩
        have step : ∀ a' w', stopA w (wpH P ops Q tail r) .normal a' w' → wpAnyC P md ops n (Ext w) (fun listed' a' w' => seq listed' = true ∧ wpList P ops Q tail a' w') r.length (listed.setIfInBounds j true) a' w' :=
          fun a' w' hs => wpAnyC_mono (fun w2 h2 => hs.1.trans h2) _ _ _ _ (wpAnyC_of_XF hsel hblk hseq r _ a' w' (inv.set hr) hB2 hs.2)
        unfold wpOp
        simp only [ho]
        simp only [wpList] at h
        by_cases hw : Region.wanted o (yielded ops a.tmps) = true
        · rw [if_pos hw] at h ⊢
          rcases h with h | ⟨_, _, _, hx⟩
          · exact .inl (wp_off stopA_off step h)
          · exact hx.elim
        · rw [if_neg hw] at h ⊢
          exact step _ _ h

/-! ### the tail: one operation after the other, none of which leaves the region -/
def stopN (Q : Exit → Act → World → Prop) : Exit → Act → World → Prop
  | .normal, a, w => True ∧ Q .normal a w
  | _, _, _ => False
def seqZ (md : Region.Mode) (ops : Array Oper) : List Nat → Array Bool → Bool
  | [], listed => decide (Region.ready md ops listed = [])
  | i :: z, listed => decide (Region.ready md ops listed = [i]) && seqZ md ops z (listed.setIfInBounds i true)
theorem seqZ_ge {n : Nat} : ∀ {z : List Nat} {listed : Array Bool}, (∀ t ∈ z, n ≤ t) → seqZ md ops z listed = true → ∀ j ∈ Region.ready md ops listed, n ≤ j
  | [], listed, _, h, j, hj => by simp only [seqZ, decide_eq_true_eq] at h; rw [h] at hj; cases hj
  | i :: z, listed, hz, h, j, hj => by
    simp only [seqZ, Bool.and_eq_true, decide_eq_true_eq] at h
    rw [h.1] at hj
    have : j = i := by simpa using hj
    subst this
    exact hz j (by simp)
def LQ (md : Region.Mode) (ops : Array Oper) (Q : Exit → Act → World → Prop) (listed : Array Bool) (a : Act) (w : World) : Prop := Region.ready md ops listed = [] ∧ Q .normal a w
def pickOps (ops : Array Oper) : List Nat → List Oper
  | [] => []
  | i :: z => match ops[i]? with | none => [] | some o => o :: pickOps ops z
theorem wpAnyC_of_Z {Q : Exit → Act → World → Prop} : ∀ (z : List Nat) (listed : Array Bool) (a : Act) (w : World), seqZ md ops z listed = true → wpList P ops (stopN Q) (pickOps ops z) a w →
    wpAnyC P md ops ops.size (fun _ => True) (LQ md ops Q) z.length listed a w
  | [], listed, a, w, hB, h => ⟨trivial, by simpa [seqZ] using hB, h.2⟩
  | i :: z, listed, a, w, hB, h => by
    simp only [seqZ, Bool.and_eq_true, decide_eq_true_eq] at hB
    have hr : i ∈ Region.ready md ops listed := by rw [hB.1]; simp
    obtain ⟨_, o, ho, _⟩ := mem_ready.1 hr
    refine ⟨trivial, by rw [hB.1]; simp, fun j hj => ?_⟩
    rw [hB.1] at hj
    have hji : j = i := by simpa using hj
    subst hji
    refine ⟨(Array.getElem?_eq_some_iff.1 ho).1, ?_⟩
    simp only [pickOps, ho] at h
    unfold wpOp
    simp only [ho]
    simp only [wpList] at h
    have step : ∀ a' w', wpList P ops (stopN Q) (pickOps ops z) a' w' → wpAnyC P md ops ops.size (fun _ => True) (LQ md ops Q) z.length (listed.setIfInBounds j true) a' w' := fun a' w' h' => wpAnyC_of_Z z _ a' w' hB.2 h'
    by_cases hw : Region.wanted o (yielded ops a.tmps) = true
    · rw [if_pos hw] at h ⊢
      rcases h with h | ⟨_, _, _, hx⟩
      · refine .inl (wp_off (fun e a w hs => ?_) step h)
        cases e <;> first | rfl | exact hs.elim
      · exact hx.elim
    · rw [if_neg hw] at h ⊢
      exact step _ _ h
theorem wpAnyC_glue {n g : Nat} {C : World → Prop} {L L' : Array Bool → Act → World → Prop} (hn : n ≤ ops.size) (hL : ∀ listed a w, L listed a w → wpAnyC P md ops ops.size (fun _ => True) L' g listed a w) :
    ∀ (f : Nat) (listed : Array Bool) (a : Act) (w : World), wpAnyC P md ops n C L f listed a w → wpAnyC P md ops ops.size (fun _ => True) L' (f + g) listed a w
  | 0, listed, a, w, h => by rw [Nat.zero_add]; exact hL _ _ _ h.2
  | f + 1, listed, a, w, h => by
    rw [show f + 1 + g = (f + g) + 1 by omega]
    exact ⟨trivial, h.2.1, fun i hi => ⟨Nat.lt_of_lt_of_le (h.2.2 i hi).1 hn, wpOp_mono (fun a' w' h' => wpAnyC_glue hn hL f _ a' w' h') (h.2.2 i hi).2⟩⟩

/-! ### the floats: addresses of fields -/
def floatKind (P : Program) : Op → Bool
  | .fieldAddr t _ f => fieldPlain P t f
  | .move _ => true
  | .assign _ => true
  | _ => false
theorem float_run {o : Oper} {a : Act} {w w1 : World} {nx : Next} (hk : floatKind P o.op = true) (hrun : (execOp a.eval o).run P w = .ok nx w1) : w1 = w ∧ ∃ v, nx = .value v ∧ ∀ w', (execOp a.eval o).run P w' = .ok nx w' := by
  obtain ⟨dst, op, type, pos, after, guard⟩ := o
  cases op <;> first | exact absurd hk Bool.false_ne_true | skip
  case move x =>
    simp only [execOp, Sem.run_pure, Result.ok.injEq] at hrun
    obtain ⟨rfl, rfl⟩ := hrun
    exact ⟨rfl, _, rfl, fun w' => by simp only [execOp, Sem.run_pure]⟩
  case assign x =>
    simp only [execOp, Sem.run_pure, Result.ok.injEq] at hrun
    obtain ⟨rfl, rfl⟩ := hrun
    exact ⟨rfl, _, rfl, fun w' => by simp only [execOp, Sem.run_pure]⟩
  case fieldAddr t x f =>
    have h : fieldPlain P t f = true := hk
    unfold fieldPlain at h
    split at h
    · rename_i fs hfs
      split at h
      · rename_i fd hfd
        split at h
        · rename_i i hi
          have hsz : i.size ≠ 0 := by simpa using h
          have hr : ∀ w : World, (Instr.fieldAt t (a.eval x) f).run P w = (do
              let a ← Instr.sureAddr (a.eval x)
              Pure.pure (Value.pointer (some (a.add fd.offset))) : Sem Value).run P w := by
            intro w
            unfold Instr.fieldAt
            simp only [Sem.run_bind, run_underlying hfs, Result.andThen, hfd]
            cases hs : (Instr.sureAddr (a.eval x)).run P w with
            | halt _ _ => rfl
            | ok a w1 =>
              simp only [fieldPlace, Sem.run_bind, sizeOf, typeInfo, Go.program, Sem.run]
              simp [Sem.run, Result.andThen, hi, hsz, Sem.run_bind, Go.program]
          have hex : ∀ w : World, (execOp a.eval { dst := dst, op := Op.fieldAddr t x f, type := type, pos := pos, after := after, guard := guard }).run P w = (do Pure.pure (Next.value (← (Instr.fieldAt t (a.eval x) f))) : Sem Next).run P w := fun w => rfl
          rw [hex, Sem.run_bind, hr] at hrun
          cases hx : a.eval x <;> first | (simp [hx, Instr.sureAddr, Sem.run_bind, Sem.run, Result.andThen] at hrun; done) | skip
          rename_i pa
          cases pa with
          | none => simp [hx, Instr.sureAddr, Sem.run_bind, Sem.run, Result.andThen] at hrun
          | some ad =>
            simp only [hx, Instr.sureAddr, Sem.run_bind, Sem.run_pure, Result.andThen, Result.ok.injEq] at hrun
            obtain ⟨rfl, rfl⟩ := hrun
            exact ⟨rfl, _, rfl, fun w' => by rw [hex, Sem.run_bind, hr]; simp only [hx, Instr.sureAddr, Sem.run_bind, Sem.run_pure, Result.andThen]⟩
        · cases h
      · cases h
    · cases h
def wpFl (P : Program) (ops : Array Oper) (K : Act → World → Prop) : List Nat → Act → World → Prop
  | [], a, w => K a w
  | i :: r, a, w => match ops[i]? with
    | none => False
    | some o => wpList P ops (stopQ w (wpFl P ops K r)) [o] a w
theorem wpFl_step {K : Act → World → Prop} {i : Nat} {r : List Nat} {a : Act} {w : World} {o : Oper} (hi : ops[i]? = some o) (h : wpList P ops (stopQ w (wpFl P ops K r)) [o] a w) : wpFl P ops K (i :: r) a w := by
  simp only [wpFl, hi]; exact h
theorem wpFl_nil {K : Act → World → Prop} {a : Act} {w : World} (h : K a w) : wpFl P ops K [] a w := h
def floatSim (P : Program) (md : Region.Mode) (ops : Array Oper) (next : Array Bool → Bool) : List Nat → Array Bool → Bool
  | [], listed => next listed
  | i :: r, listed => (match ops[i]? with
      | none => false
      | some o => floatKind P o.op && (o.guard.isNone && ((Region.ready md ops listed).contains i && Region.free md ops listed i))) && floatSim P md ops next r (listed.setIfInBounds i true)
theorem BlocksF_all : BlocksF md ops ops.size [] := fun listed _ i _ _ t ht => by
  obtain ⟨_, o, ho, _⟩ := mem_ready.1 ht
  exact (Array.getElem?_eq_some_iff.1 ho).1
theorem wpAnyC_of_Fl {Q : Exit → Act → World → Prop} {K : Act → World → Prop} {next : Array Bool → Bool} {g : Nat} (hsel : ∀ (j : Nat) (o : Oper) cs b, ops[j]? = some o → o.op ≠ .select cs b)
    (hK : ∀ listed a w, FInv md ops [] listed → next listed = true → K a w → wpAnyC P md ops ops.size (fun _ => True) (LQ md ops Q) g listed a w) :
    ∀ (r : List Nat) (listed : Array Bool) (a : Act) (w : World), FInv md ops [] listed → floatSim P md ops next r listed = true → wpFl P ops K r a w →
      wpAnyC P md ops ops.size (fun _ => True) (LQ md ops Q) (r.length + g) listed a w
  | [], listed, a, w, inv, hB, h => by rw [List.length_nil, Nat.zero_add]; exact hK _ _ _ inv hB h
  | i :: r, listed, a, w, inv, hB, h => by
    simp only [floatSim, Bool.and_eq_true] at hB
    obtain ⟨hB1, hB2⟩ := hB
    cases ho : ops[i]? with
    | none => rw [ho] at hB1; cases hB1
    | some o =>
      rw [ho] at hB1
      simp only [Bool.and_eq_true] at hB1
      obtain ⟨hk, hgd, hr1, hfr⟩ := hB1
      have hr : i ∈ Region.ready md ops listed := by simpa using hr1
      simp only [wpFl, ho] at h
      have hw : Region.wanted o (yielded ops a.tmps) = true := by
        have : o.guard = none := by simpa using hgd
        simp [Region.wanted, this]
      simp only [wpList, hw, if_true] at h
      rcases h with h | ⟨_, _, _, hx⟩
      · unfold Oper.wp at h
        cases hrun : (execOp a.eval o).run P w with
        | halt x w' =>
          rw [hrun] at h
          cases x <;> simp only [Oper.upon] at h
          exact h.elim
        | ok nx w' =>
          obtain ⟨rfl, v, rfl, hall⟩ := float_run hk hrun
          rw [hrun] at h
          simp only [Oper.upon] at h
          rw [show (i :: r).length + g = (r.length + g) + 1 by simp only [List.length_cons]; omega]
          exact take_firstF (fl := []) ho hsel BlocksF_all (by exact (Array.getElem?_eq_some_iff.1 ho).1) (fun _ _ _ hx j hj => by rw [hx.1] at hj; cases hj) _ listed a w' inv (fun j oj hj hne hun hno => Region.free_spec ho hfr j oj hj hne hun hno) hr (.inl ⟨hw, fun w2 _ => hall w2⟩) trivial
            (wpAnyC_of_Fl hsel hK r _ _ w' (inv.set hr) hB2 h.2)
      · exact hx.elim
theorem FInv.floated {fl : List Nat} {listed : Array Bool} (inv : FInv md ops [] listed) (h : fl.all (fun t => listed.getD t true) = true) : FInv md ops fl listed :=
  ⟨inv.closed, fun t ht => List.all_eq_true.1 h t ht⟩
/-- The law's check: floats fl, the head n in the order r (without floats), the tail in the order z. -/
def regH (P : Program) (md : Region.Mode) (ops : Array Oper) (n : Nat) (fl r z : List Nat) : Bool :=
  Region.noSelect ops && decide (n ≤ ops.size) && decide (fl.length + r.length + z.length = ops.size) && z.all (fun t => decide (n ≤ t)) && blockB md ops n fl &&
    floatSim P md ops (fun listed => fl.all (fun t => listed.getD t true) && headSimF P md ops n (seqZ md ops z) r listed) fl (Array.replicate ops.size false)
theorem wp_region_h {id : Nat} {Q : Exit → Act → World → Prop} {a : Act} {w : World} {l : List Oper} (n : Nat) (fl r z : List Nat) (hm : P.follows .mixedOrders = true) (hB : regH P .any l.toArray n fl r z = true)
    (h : wpFl P l.toArray (wpH P l.toArray (stopN Q) (pickOps l.toArray z) r) fl a w.drew) : (Code.region id l.toArray true).wp P Q a w := by
  simp only [regH, Bool.and_eq_true, decide_eq_true_eq] at hB
  obtain ⟨⟨⟨⟨⟨hsel, hn⟩, hlen⟩, hz⟩, hblk⟩, hsim⟩ := hB
  have hz' : ∀ t ∈ z, n ≤ t := fun t ht => by simpa using List.all_eq_true.1 hz t ht
  have inv0 : FInv .any l.toArray [] (Array.replicate l.toArray.size false) := ⟨fun j oj _ hl => (by rw [getD_replicate_false] at hl; cases hl), fun t ht => absurd ht (by simp)⟩
  have h1 := wpAnyC_of_Fl (P := P) (md := .any) (ops := l.toArray) (Q := Q) (g := r.length + z.length) (K := wpH P l.toArray (stopN Q) (pickOps l.toArray z) r) (Region.noSelect_spec hsel) (fun listed a w inv hnx hK => by
    simp only [Bool.and_eq_true] at hnx
    have h2 := wpAnyC_of_XF (P := P) (Region.noSelect_spec hsel) (blocksF_of hblk) (fun listed hs => seqZ_ge hz' hs) r listed a w (inv.floated hnx.1) hnx.2 hK
    exact wpAnyC_glue hn (fun listed a w hL => wpAnyC_of_Z z listed a w hL.1 hL.2) r.length listed a w h2) fl _ a w.drew inv0 hsim h
  have h3 := wpAny_of_C (P := P) (md := .any) (Q := Q) (g := 0) (n := l.toArray.size) (C := fun _ => True) (L := LQ .any l.toArray Q) (fun listed a w hL => hL) _ _ a w.drew h1
  refine wp_region_any hm ?_
  rw [show l.toArray.size = fl.length + (r.length + z.length) + 0 by omega]
  rw [show fl.length + (r.length + z.length) + 0 = l.toArray.size by omega]
  rw [show fl.length + (r.length + z.length) + 0 = l.toArray.size by omega] at h3
  exact h3
end
end Go.Proofs.YtonaacdefidomaaGreat
namespace Go.Proofs.YtonaacdefidomaaGreat
open Go.RowKit
section
variable {P : Program} {md : Region.Mode} {ops : Array Oper}
theorem quiet_value {o : Oper} {a : Act} {w' : World} {nx : Next} (hk : quietKind P o.op = true) (hp : plainB o a = true) (hrun : (execOp a.eval o).run P w' = .ok nx w') : ∃ v, nx = .value v := by
  obtain ⟨dst, op, type, pos, after, guard⟩ := o
  have fromVal : ∀ {s : Sem Value}, (do Pure.pure (Next.value (← s)) : Sem Next).run P w' = .ok nx w' → ∃ v, nx = .value v := fun {s} hs => by
    rw [Sem.run_bind] at hs
    cases hs2 : s.run P w' with
    | halt _ _ => rw [hs2] at hs; cases hs
    | ok v w2 =>
      rw [hs2] at hs
      simp only [Result.andThen, Sem.run_pure, Result.ok.injEq] at hs
      exact ⟨v, hs.1.symm⟩
  cases op <;> first | exact absurd hk Bool.false_ne_true | exact fromVal hrun | skip
  case move x => simp only [execOp, Sem.run_pure, Result.ok.injEq] at hrun; exact ⟨_, hrun.1.symm⟩
  case assign x => simp only [execOp, Sem.run_pure, Result.ok.injEq] at hrun; exact ⟨_, hrun.1.symm⟩
  case pick c x y =>
    simp only [execOp, Sem.run_bind] at hrun
    cases hs2 : (asBool (a.eval c)).run P w' with
    | halt _ _ => rw [hs2] at hrun; cases hrun
    | ok v w2 =>
      rw [hs2] at hrun
      simp only [Result.andThen, Sem.run_pure, Result.ok.injEq] at hrun
      exact ⟨_, hrun.1.symm⟩
  case nilCheck x =>
    have hp' := hp
    simp only [plainB] at hp'
    simp only [execOp] at hrun
    split at hp'
    · rename_i ad he
      rw [he] at hrun
      simp only [Sem.run_pure, Result.ok.injEq] at hrun
      exact ⟨_, hrun.1.symm⟩
    · cases hp'
  case call c =>
    obtain ⟨⟨x, t⟩, hc⟩ := Option.isSome_iff_exists.1 (show (lenCall c).isSome = true from hk)
    have hc' := lenCall_spec hc
    subst hc'
    refine fromVal (s := Builtin.len_ #[t] type #[a.eval x]) ?_
    rw [← hrun]
    simp only [execOp, resolve, invoke, builtin, Sem.run_bind, Sem.run_pure, Result.andThen_ok, List.map_toArray, List.map_cons, List.map_nil]
/-- a world without memory -/
def bare (w : World) : World := { w with heap := #[] }
theorem bare_ext (w w' : World) : Ext (bare w) w' := fun b hb => absurd hb (by simp [bare])
theorem bare_run {o : Oper} {a : Act} {w w1 : World} {nx : Next} (hk : quietKind P o.op = true) (hp : plainB o a = true) (hrun : (execOp a.eval o).run P (bare w) = .ok nx w1) : w1 = bare w ∧ ∃ v, nx = .value v ∧ ∀ w', (execOp a.eval o).run P w' = .ok nx w' := by
  obtain ⟨rfl, hall⟩ := Stable.op (P := P) (o := o) (a := a) hk hp _ _ _ hrun
  obtain ⟨v, rfl⟩ := quiet_value hk hp hrun
  exact ⟨rfl, v, rfl, fun w' => hall w' (bare_ext w w')⟩
def wpB (P : Program) (ops : Array Oper) (K : Act → World → Prop) : List Nat → Act → World → Prop
  | [], a, w => K a w
  | i :: r, a, w => match ops[i]? with
    | none => False
    | some o => plainB o a = true ∧ wpList P ops (stopQ (bare w) (fun a' _ => wpB P ops K r a' w)) [o] a (bare w)
theorem wpB_step {K : Act → World → Prop} {i : Nat} {r : List Nat} {a : Act} {w : World} {o : Oper} (hi : ops[i]? = some o) (hp : plainB o a = true) (h : wpList P ops (stopQ (bare w) (fun a' _ => wpB P ops K r a' w)) [o] a (bare w)) : wpB P ops K (i :: r) a w := by
  simp only [wpB, hi]; exact ⟨hp, h⟩
theorem wpB_nil {K : Act → World → Prop} {a : Act} {w : World} (h : K a w) : wpB P ops K [] a w := h
def bareSim (P : Program) (md : Region.Mode) (ops : Array Oper) (next : Array Bool → Bool) : List Nat → Array Bool → Bool
  | [], listed => next listed
  | i :: r, listed => (match ops[i]? with
      | none => false
      | some o => quietKind P o.op && (o.guard.isNone && ((Region.ready md ops listed).contains i && Region.free md ops listed i))) && bareSim P md ops next r (listed.setIfInBounds i true)
theorem wpAnyC_of_B {Q : Exit → Act → World → Prop} {K : Act → World → Prop} {next : Array Bool → Bool} {g : Nat} (hsel : ∀ (j : Nat) (o : Oper) cs b, ops[j]? = some o → o.op ≠ .select cs b)
    (hK : ∀ listed a w, FInv md ops [] listed → next listed = true → K a w → wpAnyC P md ops ops.size (fun _ => True) (LQ md ops Q) g listed a w) :
    ∀ (r : List Nat) (listed : Array Bool) (a : Act) (w : World), FInv md ops [] listed → bareSim P md ops next r listed = true → wpB P ops K r a w →
      wpAnyC P md ops ops.size (fun _ => True) (LQ md ops Q) (r.length + g) listed a w
  | [], listed, a, w, inv, hB, h => by rw [List.length_nil, Nat.zero_add]; exact hK _ _ _ inv hB h
  | i :: r, listed, a, w, inv, hB, h => by
    simp only [bareSim, Bool.and_eq_true] at hB
    obtain ⟨hB1, hB2⟩ := hB
    cases ho : ops[i]? with
    | none => rw [ho] at hB1; cases hB1
    | some o =>
      rw [ho] at hB1
      simp only [Bool.and_eq_true] at hB1
      obtain ⟨hk, hgd, hr1, hfr⟩ := hB1
      have hr : i ∈ Region.ready md ops listed := by simpa using hr1
      simp only [wpB, ho] at h
      obtain ⟨hp, h⟩ := h
      have hw : Region.wanted o (yielded ops a.tmps) = true := by
        have : o.guard = none := by simpa using hgd
        simp [Region.wanted, this]
      simp only [wpList, hw, if_true] at h
      rcases h with h | ⟨_, _, _, hx⟩
      · unfold Oper.wp at h
        cases hrun : (execOp a.eval o).run P (bare w) with
        | halt x w' =>
          rw [hrun] at h
          cases x <;> simp only [Oper.upon] at h
          exact h.elim
        | ok nx w' =>
          obtain ⟨rfl, v, rfl, hall⟩ := bare_run hk hp hrun
          rw [hrun] at h
          simp only [Oper.upon] at h
          rw [show (i :: r).length + g = (r.length + g) + 1 by simp only [List.length_cons]; omega]
          exact take_firstF (fl := []) ho hsel BlocksF_all (by exact (Array.getElem?_eq_some_iff.1 ho).1) (fun _ _ _ hx j hj => by rw [hx.1] at hj; cases hj) _ listed a w inv (fun j oj hj hne hun hno => Region.free_spec ho hfr j oj hj hne hun hno) hr (.inl ⟨hw, fun w2 _ => hall w2⟩) trivial
            (wpAnyC_of_B hsel hK r _ _ w (inv.set hr) hB2 h.2)
      · exact hx.elim
/-- The law's check: fl first (they hang on no memory), then z in its order. -/
def regI (P : Program) (md : Region.Mode) (ops : Array Oper) (fl z : List Nat) : Bool :=
  Region.noSelect ops && decide (fl.length + z.length = ops.size) && bareSim P md ops (seqZ md ops z) fl (Array.replicate ops.size false)
theorem wp_region_i {id : Nat} {Q : Exit → Act → World → Prop} {a : Act} {w : World} {l : List Oper} (fl z : List Nat) (hm : P.follows .mixedOrders = true) (hB : regI P .any l.toArray fl z = true)
    (h : wpB P l.toArray (fun a w => wpList P l.toArray (stopN Q) (pickOps l.toArray z) a w) fl a w.drew) : (Code.region id l.toArray true).wp P Q a w := by
  simp only [regI, Bool.and_eq_true, decide_eq_true_eq] at hB
  obtain ⟨⟨hsel, hlen⟩, hsim⟩ := hB
  have inv0 : FInv .any l.toArray [] (Array.replicate l.toArray.size false) := ⟨fun j oj _ hl => (by rw [getD_replicate_false] at hl; cases hl), fun t ht => absurd ht (by simp)⟩
  have h1 := wpAnyC_of_B (P := P) (md := .any) (ops := l.toArray) (Q := Q) (g := z.length) (K := fun a w => wpList P l.toArray (stopN Q) (pickOps l.toArray z) a w) (Region.noSelect_spec hsel) (fun listed a w inv hnx hK => wpAnyC_of_Z z listed a w hnx hK) fl _ a w.drew inv0 hsim h
  have h3 := wpAny_of_C (P := P) (md := .any) (Q := Q) (g := 0) (n := l.toArray.size) (C := fun _ => True) (L := LQ .any l.toArray Q) (fun listed a w hL => hL) _ _ a w.drew h1
  refine wp_region_any hm ?_
  rw [show fl.length + z.length + 0 = l.toArray.size by omega] at h3
  exact h3
end
end Go.Proofs.YtonaacdefidomaaGreat
namespace Go.Proofs.YtonaacdefidomaaGreat
open Go.RowKit

set_option maxRecDepth 100000 in
theorem l1Once_x (B g n : Nat) (xs : List UInt8) (s : DSt) (w : World) (hc : Cur B g xs s w) (h1 : 1 ≤ n) (h2 : n ≤ 1000000000) :
    Calls Tryz.prog 45 #[.pointer (some ⟨g, 0, none⟩), .int .i64 (n : Int)] w fun e w' => e = .returned (.bool (onceF xs n s).1) ∧ Cur B g xs (onceF xs n s).2 w' ∧ w.grownBy w' (some g) := by
  unfold onceF
  have H1 := Lib.hid (fun w hc => l1Below_x B g n xs s w hc h1 h2)
  generalize belowF xs n s = R at *
  obtain ⟨rv, rs⟩ := R
  simp only []
  go_enter Tryz.func45, Tryz.ntmps45
  go_wp2_with fail
  refine (H1.out _ hc).mono ?_
  rintro e w2 ⟨rfl, hc2, hg⟩
  have HC := Lib.hid hc2; clear hc2
  have HG := Lib.hid hg; clear hg
  by_cases h0 : rv = 0
  · subst h0
    go_wp2
    go_ret
    exact ⟨ret_eq (by first | rfl | simp), HC.out, HG.out⟩
  · have hb : ((rv : Int) == 0) = false := by simpa using h0
    have hd : decide (rv = 0) = false := by simpa using h0
    have HD := Lib.hid hd; clear hd
    clear h0
    go_wp2
    go_ret
    exact ⟨ret_eq (by rw [HD.out]; rfl), HC.out, HG.out⟩

theorem own_byte_x {w : World} {base e n : Nat} {v : Value} {l : List UInt8} {b : Nat} {R : Int} (h : w.ownsRow base e 1 v n (l.map u8v ++ [.int .u8 R])) (hR : R = (b : Int)) (hb : b ≤ 255) : w.ownsRow base e 1 v n ((l ++ [UInt8.ofNat b]).map u8v) := by
  subst hR
  rw [List.map_append]
  have : [UInt8.ofNat b].map u8v = [.int .u8 (b : Int)] := by
    simp only [List.map_cons, List.map_nil, u8v]
    rw [ofNat_toNat (by omega)]
  rw [this]
  exact h
set_option maxRecDepth 100000 in
set_option maxHeartbeats 4000000 in
theorem l1Text_x (B g most : Nat) (xs : List UInt8) (s : DSt) (w : World) (hc : Cur B g xs s w) (hm : most ≤ 1000) :
    Calls Tryz.prog 50 #[.pointer (some ⟨g, 0, none⟩), .int .i64 (most : Int)] w fun e w' => e = .returned (.string (bs (textF xs most s).1)) ∧ Cur B g xs (textF xs most s).2 w' ∧ w.grownBy w' (some g) := by
  have hgl := hc.lt
  have H1 := Lib.hid (fun w hc => l1Below_x B g 4 xs s w hc (by omega) (by omega))
  have hk4 := belowF_lt xs 4 s (by omega)
  obtain ⟨RT, hRT⟩ : ∃ RT, RT = textF xs most s := ⟨_, rfl⟩
  rw [← hRT]
  unfold textF at hRT
  simp only [] at hRT
  generalize belowF xs 4 s = R1 at *
  obtain ⟨sty, s1⟩ := R1
  simp only [] at hk4 hRT
  have H2 := Lib.hid (fun w hc => l1Below_x B g (most + 1) xs s1 w hc (by omega) (by omega))
  have hk5 := belowF_lt xs (most + 1) s1 (by omega)
  generalize belowF xs (most + 1) s1 = R2 at *
  obtain ⟨cnt, s2⟩ := R2
  simp only [] at hk5 hRT
  have HRT := Lib.hid (show textR xs sty cnt [] s2 = RT from hRT.symm)
  clear hRT
  have hcm : ((most + 1 : Nat) : Int) = (most : Int) + 1 := by push_cast; rfl
  rw [hcm] at H2
  go_enter Tryz.func50, Tryz.ntmps50
  go_wp2_with fail
  refine (H1.out _ (hc.keep (grown_alloc w _) (fun k hk => by cases hk))).mono ?_
  rintro e w2 ⟨rfl, hc2, hg2⟩
  have hO : (w.alloc (.cells #[] 5)).ownsRow w.heap.size 5 1 (.slice (some ⟨w.heap.size, 0, none⟩) 0 0) 0 (([] : List UInt8).map u8v) := World.ownsRow_made w #[] 0 (Nat.le_refl _) (by simp [maxLen]) rfl
  have hO2 := hO.kept hg2 (.inr (by simp [Value.ownBlock]; omega))
  have hG2 : w.grownBy w2 (some g) := grown_trans (grown_weak (grown_alloc w _)) hg2
  clear hg2 hO hc
  generalize Value.slice (some ⟨w.heap.size, 0, none⟩) 0 0 = v0 at hO2 ⊢
  go_wp2_with fail
  refine (H2.out _ hc2).mono ?_
  rintro e w3 ⟨rfl, hc3, hg3⟩
  have hO3 := hO2.kept hg3 (.inr (fun e => by have := (hO2.lt g e).1; omega))
  have hG3 : w.grownBy w3 (some g) := grown_trans hG2 hg3
  clear hg3 hc2 hO2 hG2 hcm
  have HS3 := Lib.hid (And.intro hO3 (And.intro hc3 hG3))
  clear hO3 hc3 hG3
  have HST := Lib.hid (fun b (hb : b ≤ 255) => @styleF_le sty b hb)
  have hsty : sty = 1 ∨ sty = 2 ∨ (¬ sty = 1 ∧ ¬ sty = 2) := by omega
  rcases hsty with rfl | rfl | ⟨hs1, hs2⟩
  · go_wp2_with fail
    go_loopw [5, 7] (fun v i wr => ∃ (k : Nat) (l : List UInt8) (st : DSt), i = .int .i64 (k : Int) ∧ l.length + k ≤ most ∧ textR xs 1 k l st = RT ∧ wr.ownsRow w.heap.size 5 1 v l.length (l.map u8v) ∧ Cur B g xs st wr ∧ w.grownBy wr (some g)) (fun _ i _ => (intOf i).toNat)
    case atStart => exact ⟨cnt, [], s2, rfl, by simp; omega, HRT.out, HS3.out.1, HS3.out.2.1, HS3.out.2.2⟩
    case round =>
      clear HS3 HRT
      obtain ⟨k, l, st, rfl, hkl, hT, hO, hC, hG⟩ := hrel
      have HT := Lib.hid hT; clear hT
      by_cases hk : 0 < k
      · obtain ⟨k', rfl⟩ : ∃ k', k = k' + 1 := ⟨k - 1, by omega⟩
        have hT2 := HT.out
        rw [textR] at hT2
        have H3 := Lib.hid (fun w hc => l1Byte_x B g xs st w hc)
        have hb255 := byteF_le xs st
        have hsb := HST.out _ hb255
        generalize byteF xs st = R3 at *
        obtain ⟨x, st'⟩ := R3
        simp only [] at hT2 hb255 hsb
        have HT2 := Lib.hid hT2
        clear hT2 HT
        go_wp2_with fail
        refine (H3.out _ hC).mono ?_
        rintro e w4 ⟨rfl, hc4, hg4⟩
        have hO4 := hO.kept hg4 (.inr (fun e => by have := (hO.lt g e).1; omega))
        have hG4 : w.grownBy w4 (some g) := grown_trans hG hg4
        have hsz : w.heap.size ≤ w4.heap.size := hG4.size
        clear hO hC hG hg4
        have HO := Lib.hid hO4; clear hO4
        have HC := Lib.hid hc4; clear hc4
        have HG := Lib.hid hG4; clear hG4
        have HSB := Lib.hid hsb; clear hsb
        go_wp2_with (first
          | (at_builtin; go_must (refine wpList_app E_u8 _ rfl _ _ rfl w.heap.size _ l.length _ rfl (HO.out.alloc _) _ _ _ _ rfl (Reads.new (e := 5) rfl) (by intro u hu; rw [List.mem_singleton.1 hu]; rfl) (by omega) (Nat.le_trans hsz (by simp)) ?_; intro v' w5 hown5 hgr5 hat5))
          | fail)
        have hb := own_byte_x (b := styleF 1 x) hown5 (by rw [show styleF 1 x = x % 2 from rfl]; push_cast; first | rfl | omega) HSB.out
        exact ⟨⟨k', l ++ [UInt8.ofNat (styleF 1 x)], st', by first | rfl | go_num, by rw [List.length_append]; show l.length + 1 + k' ≤ most; omega, HT2.out, by rw [List.length_append]; exact hb, (HC.out.keep (grown_alloc _ _) (fun k hk => by cases hk)).keep hgr5 (fun k hk => by have := (HO.out.lt k hk).1; omega), grownBy_trans_new (grown_trans HG.out (grown_weak (grown_alloc _ _))) hgr5 (fun k hk => .inr (HO.out.lt k hk).1)⟩, by simp only [intOf]; omega⟩
      · have hk0 : k = 0 := by omega
        subst hk0
        have hT2 : (l, st) = RT := HT.out
        subst hT2
        have HO := Lib.hid hO; clear hO
        go_wp2_with (first
          | (refine wpList_bytes_own _ rfl 22 9 _ rfl 5 E_u8.ht Tryz.underlying5 Tryz.underlying9 w.heap.size _ _ l rfl (by exact HO.out) ?_)
          | fail)
        go_ret
        exact ⟨ret_eq rfl, hC, hG⟩
  · go_wp2_with fail
    go_loopw [5, 7] (fun v i wr => ∃ (k : Nat) (l : List UInt8) (st : DSt), i = .int .i64 (k : Int) ∧ l.length + k ≤ most ∧ textR xs 2 k l st = RT ∧ wr.ownsRow w.heap.size 5 1 v l.length (l.map u8v) ∧ Cur B g xs st wr ∧ w.grownBy wr (some g)) (fun _ i _ => (intOf i).toNat)
    case atStart => exact ⟨cnt, [], s2, rfl, by simp; omega, HRT.out, HS3.out.1, HS3.out.2.1, HS3.out.2.2⟩
    case round =>
      clear HS3 HRT
      obtain ⟨k, l, st, rfl, hkl, hT, hO, hC, hG⟩ := hrel
      have HT := Lib.hid hT; clear hT
      by_cases hk : 0 < k
      · obtain ⟨k', rfl⟩ : ∃ k', k = k' + 1 := ⟨k - 1, by omega⟩
        have hT2 := HT.out
        rw [textR] at hT2
        have H3 := Lib.hid (fun w hc => l1Byte_x B g xs st w hc)
        have hb255 := byteF_le xs st
        have hsb := HST.out _ hb255
        generalize byteF xs st = R3 at *
        obtain ⟨x, st'⟩ := R3
        simp only [] at hT2 hb255 hsb
        have HT2 := Lib.hid hT2
        clear hT2 HT
        go_wp2_with fail
        refine (H3.out _ hC).mono ?_
        rintro e w4 ⟨rfl, hc4, hg4⟩
        have hO4 := hO.kept hg4 (.inr (fun e => by have := (hO.lt g e).1; omega))
        have hG4 : w.grownBy w4 (some g) := grown_trans hG hg4
        have hsz : w.heap.size ≤ w4.heap.size := hG4.size
        clear hO hC hG hg4
        have HO := Lib.hid hO4; clear hO4
        have HC := Lib.hid hc4; clear hc4
        have HG := Lib.hid hG4; clear hG4
        have HSB := Lib.hid hsb; clear hsb
        go_wp2_with (first
          | (at_builtin; go_must (refine wpList_app E_u8 _ rfl _ _ rfl w.heap.size _ l.length _ rfl (HO.out.alloc _) _ _ _ _ rfl (Reads.new (e := 5) rfl) (by intro u hu; rw [List.mem_singleton.1 hu]; rfl) (by omega) (Nat.le_trans hsz (by simp)) ?_; intro v' w5 hown5 hgr5 hat5))
          | fail)
        have hb := own_byte_x (b := styleF 2 x) hown5 (by rw [show styleF 2 x = 97 + x % 4 from rfl]; push_cast; first | rfl | omega) HSB.out
        exact ⟨⟨k', l ++ [UInt8.ofNat (styleF 2 x)], st', by first | rfl | go_num, by rw [List.length_append]; show l.length + 1 + k' ≤ most; omega, HT2.out, by rw [List.length_append]; exact hb, (HC.out.keep (grown_alloc _ _) (fun k hk => by cases hk)).keep hgr5 (fun k hk => by have := (HO.out.lt k hk).1; omega), grownBy_trans_new (grown_trans HG.out (grown_weak (grown_alloc _ _))) hgr5 (fun k hk => .inr (HO.out.lt k hk).1)⟩, by simp only [intOf]; omega⟩
      · have hk0 : k = 0 := by omega
        subst hk0
        have hT2 : (l, st) = RT := HT.out
        subst hT2
        have HO := Lib.hid hO; clear hO
        go_wp2_with (first
          | (refine wpList_bytes_own _ rfl 22 9 _ rfl 5 E_u8.ht Tryz.underlying5 Tryz.underlying9 w.heap.size _ _ l rfl (by exact HO.out) ?_)
          | fail)
        go_ret
        exact ⟨ret_eq rfl, hC, hG⟩
  · have hsb1 : ((sty : Int) == 1) = false := by simp only [beq_eq_false_iff_ne]; omega
    have hsb2 : ((sty : Int) == 2) = false := by simp only [beq_eq_false_iff_ne]; omega
    have HSE := Lib.hid (fun x : Nat => show styleF sty x = x by unfold styleF; rw [if_neg hs1, if_neg hs2])
    clear hs1 hs2
    go_wp2_with fail
    go_loopw [5, 7] (fun v i wr => ∃ (k : Nat) (l : List UInt8) (st : DSt), i = .int .i64 (k : Int) ∧ l.length + k ≤ most ∧ textR xs sty k l st = RT ∧ wr.ownsRow w.heap.size 5 1 v l.length (l.map u8v) ∧ Cur B g xs st wr ∧ w.grownBy wr (some g)) (fun _ i _ => (intOf i).toNat)
    case atStart => exact ⟨cnt, [], s2, rfl, by simp; omega, HRT.out, HS3.out.1, HS3.out.2.1, HS3.out.2.2⟩
    case round =>
      clear HS3 HRT
      obtain ⟨k, l, st, rfl, hkl, hT, hO, hC, hG⟩ := hrel
      have HT := Lib.hid hT; clear hT
      by_cases hk : 0 < k
      · obtain ⟨k', rfl⟩ : ∃ k', k = k' + 1 := ⟨k - 1, by omega⟩
        have hT2 := HT.out
        rw [textR] at hT2
        have H3 := Lib.hid (fun w hc => l1Byte_x B g xs st w hc)
        have hb255 := byteF_le xs st
        have hsb := HST.out _ hb255
        generalize byteF xs st = R3 at *
        obtain ⟨x, st'⟩ := R3
        simp only [] at hT2 hb255 hsb
        have HT2 := Lib.hid hT2
        clear hT2 HT
        go_wp2_with fail
        refine (H3.out _ hC).mono ?_
        rintro e w4 ⟨rfl, hc4, hg4⟩
        have hO4 := hO.kept hg4 (.inr (fun e => by have := (hO.lt g e).1; omega))
        have hG4 : w.grownBy w4 (some g) := grown_trans hG hg4
        have hsz : w.heap.size ≤ w4.heap.size := hG4.size
        clear hO hC hG hg4
        have HO := Lib.hid hO4; clear hO4
        have HC := Lib.hid hc4; clear hc4
        have HG := Lib.hid hG4; clear hG4
        have HSB := Lib.hid hsb; clear hsb
        go_wp2_with (first
          | (at_builtin; go_must (refine wpList_app E_u8 _ rfl _ _ rfl w.heap.size _ l.length _ rfl (HO.out.alloc _) _ _ _ _ rfl (Reads.new (e := 5) rfl) (by intro u hu; rw [List.mem_singleton.1 hu]; rfl) (by omega) (Nat.le_trans hsz (by simp)) ?_; intro v' w5 hown5 hgr5 hat5))
          | fail)
        have hb := own_byte_x (b := styleF sty x) hown5 (by rw [HSE.out]) HSB.out
        exact ⟨⟨k', l ++ [UInt8.ofNat (styleF sty x)], st', by first | rfl | go_num, by rw [List.length_append]; show l.length + 1 + k' ≤ most; omega, HT2.out, by rw [List.length_append]; exact hb, (HC.out.keep (grown_alloc _ _) (fun k hk => by cases hk)).keep hgr5 (fun k hk => by have := (HO.out.lt k hk).1; omega), grownBy_trans_new (grown_trans HG.out (grown_weak (grown_alloc _ _))) hgr5 (fun k hk => .inr (HO.out.lt k hk).1)⟩, by simp only [intOf]; omega⟩
      · have hk0 : k = 0 := by omega
        subst hk0
        have hT2 : (l, st) = RT := HT.out
        subst hT2
        have HO := Lib.hid hO; clear hO
        go_wp2_with (first
          | (refine wpList_bytes_own _ rfl 22 9 _ rfl 5 E_u8.ht Tryz.underlying5 Tryz.underlying9 w.heap.size _ _ l rfl (by exact HO.out) ?_)
          | fail)
        go_ret
        exact ⟨ret_eq rfl, hC, hG⟩

end Go.Proofs.YtonaacdefidomaaGreat
namespace Go.Proofs.YtonaacdefidomaaGreat
open Go.RowKit

set_option maxRecDepth 100000 in
set_option maxHeartbeats 1000000 in
theorem l1New_x (A : Option Addr) (n c : Nat) (xs : List UInt8) (w : World) (hr : Reads w 1 A n (xs.map u8v)) (hn : n ≤ 1048576) :
    Calls Tryz.prog 21 #[.slice A n c] w fun e w' => ∃ g, e = .returned (.pointer (some ⟨g, 0, none⟩)) ∧ Cur w.heap.size g xs (startF xs) w' ∧ Below w.heap.size w w' := by
  have hxl : xs.length = n := by have := hr.1; simpa using this
  have hAb : ∀ ad, A = some ad → 0 < n → ad.block < w.heap.size := fun ad e h0 => by
    obtain ⟨ad', e', hcs⟩ := hr.2 h0
    have : ad = ad' := by rw [e] at e'; injection e'
    subst this
    have h1 := hcs 0 (u8v (xs[0]'(by omega))) (by rw [List.getElem?_map, List.getElem?_eq_getElem (by omega)]; rfl)
    have := World.block_lt_of_cell? _ _ h1
    rwa [block_of_add] at this
  have H0 := Lib.hid (show (10101 : Int) + (n : Int) = newH xs 0 by rw [newH, hxl])
  have HSU := Lib.hid (fun k => newH_succ xs k)
  have HF := Lib.hid (fun k (h : k = min xs.length 4000) => show (⟨0, newH xs k⟩ : DSt) = startF xs by rw [h]; rfl)
  obtain ⟨NH, hNH⟩ : ∃ NH, NH = newH xs := ⟨_, rfl⟩
  rw [← hNH] at H0 HSU HF
  clear hNH
  generalize startF xs = SF at *
  go_enter Tryz.func21, Tryz.ntmps21
  go_wp2_with fail
  go_loopw [3, 4] (fun h i wr => ∃ (k : Nat), k ≤ n ∧ k ≤ 4000 ∧ i = .int .i64 (k : Int) ∧ h = .int .i64 (NH k) ∧ w = wr) (fun _ i _ => n - (intOf i).toNat)
  case atStart => exact ⟨0, Nat.zero_le _, by omega, rfl, by rw [← H0.out], rfl⟩
  case round =>
    obtain ⟨k, hk, hk4, rfl, rfl, rfl⟩ := hrel
    by_cases hlt : k < n ∧ k < 4000
    · obtain ⟨hl1, hl2⟩ := hlt
      have hd1 : decide ((k : Int) < (n : Int)) = true := by simp; omega
      have hd2 : decide ((k : Int) < 4000) = true := by simp; omega
      obtain ⟨ad, rfl, hcs⟩ := hr.2 (by omega)
      have hl0 : 0 < xs.length := by omega
      obtain ⟨gA, oA, rfl⟩ := ad_none (hcs 0 (u8v xs[0]) (by rw [List.getElem?_map, List.getElem?_eq_getElem hl0]; rfl))
      have hl : k < xs.length := by omega
      have cA : w.cell? ⟨gA, oA + k, none⟩ = some (.int .u8 ((xs[k].toNat : Nat) : Int)) := by
        have := hcs k (u8v xs[k]) (by rw [List.getElem?_map, List.getElem?_eq_getElem hl]; rfl)
        rw [add_plain] at this
        exact this
      have hsu := HSU.out k
      have hgd : xs.getD k 0 = xs[k] := by simp [hl]
      rw [hgd] at hsu
      have HS1 := Lib.hid hsu; clear hsu hgd
      have hxb := xs[k].toNat_lt
      go_wp2
      exact ⟨⟨k + 1, by omega, by omega, by go_num, by rw [HS1.out], by first | rfl | trivial⟩, by simp only [intOf]; omega⟩
    · have HF2 := Lib.hid (HF.out k (by omega))
      by_cases hl1 : k < n
      · have hd1 : decide ((k : Int) < (n : Int)) = true := by simp; omega
        have hd2 : decide ((k : Int) < 4000) = false := by simp; omega
        go_wp2
        go_ret
        exact ⟨_, ret_eq rfl, ⟨A, n, c, by rw [← HF2.out]; exact blk_new _ _ _, hr.below ((Below.refl _ _).alloc (Nat.le_refl _) _), hxl.symm, by rw [← HF2.out]; exact Nat.zero_le _, hn, Nat.le_refl _, hAb⟩, (by repeat' (first | with_reducible exact Below.refl _ _ | with_reducible exact BW.out | with_reducible refine Below.setCell ?_ ?_ _ | with_reducible refine Below.alloc ?_ ?_ _ | with_reducible refine Below.drew ?_ | (simp; done) | (simp; omega) | omega))⟩
      · have hd1 : decide ((k : Int) < (n : Int)) = false := by simp; omega
        go_wp2
        go_ret
        exact ⟨_, ret_eq rfl, ⟨A, n, c, by rw [← HF2.out]; exact blk_new _ _ _, hr.below ((Below.refl _ _).alloc (Nat.le_refl _) _), hxl.symm, by rw [← HF2.out]; exact Nat.zero_le _, hn, Nat.le_refl _, hAb⟩, (by repeat' (first | with_reducible exact Below.refl _ _ | with_reducible exact BW.out | with_reducible refine Below.setCell ?_ ?_ _ | with_reducible refine Below.alloc ?_ ?_ _ | with_reducible refine Below.drew ?_ | (simp; done) | (simp; omega) | omega))⟩

theorem reads_new_ints (v : World) (cs : Array Value) (e : Nat) (L : List Int) (hc : cs.toList = L.map (Value.int .i64)) : Reads (v.alloc (.cells cs e)) 1 (some ⟨v.heap.size, 0, none⟩) L.length (L.map (Value.int .i64)) := by
  rw [← hc]
  refine Reads.new ?_
  have := congrArg List.length hc
  simpa using this
set_option maxRecDepth 100000 in
set_option maxHeartbeats 1000000 in
theorem l1PickInt_x (B g : Nat) (xs : List UInt8) (s : DSt) (L : List Int) (g2 n c : Nat) (w : World) (hc : Cur B g xs s w) (hn : n = L.length) (h0 : 1 ≤ n) (h1 : n ≤ 256) (hg2 : g2 ≠ g) (hr : Reads w 1 (some ⟨g2, 0, none⟩) n (L.map (Value.int .i64))) :
    Calls Tryz.prog 48 #[.pointer (some ⟨g, 0, none⟩), .slice (some ⟨g2, 0, none⟩) n c] w fun e w' => e = .returned (.int .i64 (L.getD (belowF xs n s).1 0)) ∧ Cur B g xs (belowF xs n s).2 w' ∧ w.grownBy w' (some g) := by
  have H1 := Lib.hid (fun w hc => l1Below_x B g n xs s w hc (by omega) (by omega))
  have hlt := belowF_lt xs n s (by omega)
  generalize belowF xs n s = R at *
  obtain ⟨rv, rs⟩ := R
  simp only [] at hlt ⊢
  have HR := Lib.hid hr; clear hr
  have HN := Lib.hid hn; clear hn
  go_enter Tryz.func48, Tryz.ntmps48
  go_wp2_with fail
  refine (H1.out _ hc).mono ?_
  rintro e w2 ⟨rfl, hc2, hg⟩
  have hrv : rv < L.length := by have := HN.out; omega
  have hcell : w2.cell? ⟨g2, rv, none⟩ = some (.int .i64 L[rv]) := by
    obtain ⟨ad, e, hcs⟩ := HR.out.2 (by omega)
    injection e with e
    subst e
    have h2 := hcs rv (.int .i64 L[rv]) (by rw [List.getElem?_map, List.getElem?_eq_getElem hrv]; rfl)
    rw [add_plain, Nat.zero_add] at h2
    have hb := World.block_lt_of_cell? _ _ h2
    rw [World.cell?_of_block (hg.block _ hb (fun e => hg2 (by injection e)))]
    exact h2
  have hgd : L.getD rv 0 = L[rv] := by simp [hrv]
  have HGD := Lib.hid hgd; clear hgd
  have HC := Lib.hid hc2; clear hc2
  have HG := Lib.hid hg; clear hg
  generalize L[rv] = val at *
  go_wp2
  go_ret
  exact ⟨ret_eq (by rw [HGD.out]; rfl), HC.out, HG.out⟩









































































































































end Go.Proofs.YtonaacdefidomaaGreat
namespace Go.Proofs.YtonaacdefidomaaGreat
open Go.RowKit

theorem own_built (w : World) (base : Nat) (b : Nat) (cs : Array Value) (hb : base ≤ w.heap.size) (hc : cs = #[.int .u8 (b : Int)]) (h255 : b ≤ 255) : (w.alloc (.cells cs 5)).ownsRow base 5 1 (.slice (some ⟨w.heap.size, 0, none⟩) 1 1) 1 ([UInt8.ofNat b].map u8v) := by
  subst hc
  have : [UInt8.ofNat b].map u8v = [.int .u8 (b : Int)] := by
    simp only [List.map_cons, List.map_nil, u8v]
    rw [ofNat_toNat (by omega)]
  rw [this]
  exact ⟨rfl, .inr ⟨w.heap.size, 1, _, rfl, hb, heap_alloc_new w _, Nat.le_refl _, by simp [maxLen], rfl, rfl⟩⟩
theorem Cur.below {B g : Nat} {xs : List UInt8} {s : DSt} {w w' : World} (h : Cur B g xs s w) (hb : Below w.heap.size w w') : Cur B g xs s w' := by
  obtain ⟨A, n, c, hbk, hrd, hnx, hin, hn, hBg, hA⟩ := h
  refine ⟨A, n, c, hbk.below hb, hrd.below hb, hnx, hin, hn, hBg, hA⟩
theorem below_grown {w w' : World} {g : Nat} (h : Below w.heap.size w w') : w.grownBy w' (some g) := ⟨h.os, h.tape, h.output, h.size, fun k hk _ => h.block k hk⟩

































































































































































































































































































end Go.Proofs.YtonaacdefidomaaGreat
namespace Go.Proofs.YtonaacdefidomaaGreat
open Go.RowKit
section
variable {P : Program} {md : Region.Mode} {ops : Array Oper}
def stopC (C : World → Prop) (K : Act → World → Prop) : Exit → Act → World → Prop
  | .normal, a', w' => C w' ∧ K a' w'
  | _, _, _ => False
theorem stopC_off {C : World → Prop} {K : Act → World → Prop} (e : Exit) (a : Act) (w : World) (h : stopC C K e a w) : e = .normal := by
  cases e <;> first | rfl | exact h.elim
/-- what is only read, whatever world it is that meets C -/
def wpCr (P : Program) (ops : Array Oper) (C : World → Prop) (K : Act → World → Prop) : List Nat → Act → World → Prop
  | [], a, w => K a w
  | i :: r, a, w => match ops[i]? with
    | none => False
    | some o => ∃ v, (∀ w', C w' → (execOp a.eval o).run P w' = .ok (.value v) w') ∧ wpCr P ops C K r (a.put o.dst v) w
/-- one operation after the other, under C -/
def wpCz (P : Program) (ops : Array Oper) (C : World → Prop) (K : Act → World → Prop) : List Nat → Act → World → Prop
  | [], a, w => K a w
  | i :: r, a, w => match ops[i]? with
    | none => False
    | some o => wpList P ops (stopC C (wpCz P ops C K r)) [o] a w
theorem wpCr_nil {C : World → Prop} {K : Act → World → Prop} {a : Act} {w : World} (h : K a w) : wpCr P ops C K [] a w := h
theorem wpCz_nil {C : World → Prop} {K : Act → World → Prop} {a : Act} {w : World} (h : K a w) : wpCz P ops C K [] a w := h
theorem wpCr_step {C : World → Prop} {K : Act → World → Prop} {i : Nat} {r : List Nat} {a : Act} {w : World} {o : Oper} (hi : ops[i]? = some o) (v : Value) (hv : ∀ w', C w' → (execOp a.eval o).run P w' = .ok (.value v) w') (h : wpCr P ops C K r (a.put o.dst v) w) : wpCr P ops C K (i :: r) a w := by
  simp only [wpCr, hi]; exact ⟨v, hv, h⟩
/-- .. that hangs on no memory -/
theorem wpCr_bare {C : World → Prop} {K : Act → World → Prop} {i : Nat} {r : List Nat} {a : Act} {w : World} {o : Oper} (hi : ops[i]? = some o) (hk : quietKind P o.op = true) (hp : plainB o a = true) (hg : o.guard = none)
    (h : wpList P ops (stopQ (bare w) (fun a' _ => wpCr P ops C K r a' w)) [o] a (bare w)) : wpCr P ops C K (i :: r) a w := by
  have hw : Region.wanted o (yielded ops a.tmps) = true := by simp [Region.wanted, hg]
  simp only [wpList, hw, if_true] at h
  rcases h with h | ⟨_, _, _, hx⟩
  · unfold Oper.wp at h
    cases hrun : (execOp a.eval o).run P (bare w) with
    | halt x w' =>
      rw [hrun] at h
      cases x <;> simp only [Oper.upon] at h
      exact h.elim
    | ok nx w' =>
      obtain ⟨rfl, v, rfl, hall⟩ := bare_run hk hp hrun
      rw [hrun] at h
      simp only [Oper.upon] at h
      exact wpCr_step hi v (fun w' _ => hall w') h.2
  · exact hx.elim
theorem wpCz_step {C : World → Prop} {K : Act → World → Prop} {i : Nat} {r : List Nat} {a : Act} {w : World} {o : Oper} (hi : ops[i]? = some o) (h : wpList P ops (stopC C (wpCz P ops C K r)) [o] a w) : wpCz P ops C K (i :: r) a w := by
  simp only [wpCz, hi]; exact h
/-- one cell loaded -/
theorem run_load1 {a : Act} {o : Oper} {t : TypeId} {x : Operand} {ad : Addr} {v : Value} {w : World} (ho : o.op = .load t x) (hx : a.eval x = .pointer (some ad)) (hs : ∀ w, (Instr.loadAt t (.pointer (some ad))).run P w = (Sem.load .plain ad Sem.pure : Sem Value).run P w) (hc : w.cell? ad = some v) : (execOp a.eval o).run P w = .ok (.value v) w := by
  unfold execOp
  simp only [ho, hx, Sem.run_bind, hs, Sem.run, hc, Result.andThen, Sem.run_pure]
/-- a row of cells loaded -/
theorem run_loadN {a : Act} {o : Oper} {t : TypeId} {x : Operand} {ad : Addr} {cs : List Value} {w : World} (ho : o.op = .load t x) (hx : a.eval x = .pointer (some ad)) (h : Agg P t cs.length) (hc : ∀ j v, cs[j]? = some v → w.cell? (ad.add j) = some v) : (execOp a.eval o).run P w = .ok (.value (.agg cs.toArray)) w := by
  unfold execOp
  simp only [ho, hx, Sem.run_bind, run_load_row w ad cs h hc, Result.andThen, Sem.run_pure]
def simR (P : Program) (md : Region.Mode) (ops : Array Oper) (n : Nat) (next : Array Bool → Bool) : List Nat → Array Bool → Bool
  | [], listed => next listed
  | i :: r, listed => decide (i < n) && (match ops[i]? with
      | none => false
      | some o => o.guard.isNone && ((Region.ready md ops listed).contains i && Region.free md ops listed i)) && simR P md ops n next r (listed.setIfInBounds i true)
def simZ (md : Region.Mode) (ops : Array Oper) (n : Nat) (next : Array Bool → Bool) : List Nat → Array Bool → Bool
  | [], listed => next listed
  | i :: z, listed => decide (i < n) && decide (Region.ready md ops listed = [i]) && simZ md ops n next z (listed.setIfInBounds i true)
theorem wpAnyC_of_Cz {n : Nat} {C : World → Prop} {K : Act → World → Prop} {next : Array Bool → Bool} {L : Array Bool → Act → World → Prop} (hK : ∀ listed a w, next listed = true → C w → K a w → L listed a w) :
    ∀ (z : List Nat) (listed : Array Bool) (a : Act) (w : World), simZ md ops n next z listed = true → C w → wpCz P ops C K z a w → wpAnyC P md ops n C L z.length listed a w
  | [], listed, a, w, hB, hC, h => ⟨hC, hK _ _ _ hB hC h⟩
  | i :: z, listed, a, w, hB, hC, h => by
    simp only [simZ, Bool.and_eq_true, decide_eq_true_eq] at hB
    obtain ⟨⟨hin, hrd⟩, hB2⟩ := hB
    have hr : i ∈ Region.ready md ops listed := by rw [hrd]; simp
    obtain ⟨_, o, ho, _⟩ := mem_ready.1 hr
    refine ⟨hC, by rw [hrd]; simp, fun j hj => ?_⟩
    rw [hrd] at hj
    have hji : j = i := by simpa using hj
    subst hji
    refine ⟨hin, ?_⟩
    simp only [wpCz, ho] at h
    unfold wpOp
    simp only [ho]
    simp only [wpList] at h
    have step : ∀ a' w', stopC C (wpCz P ops C K z) .normal a' w' → wpAnyC P md ops n C L z.length (listed.setIfInBounds j true) a' w' := fun a' w' h' => wpAnyC_of_Cz hK z _ a' w' hB2 h'.1 h'.2
    by_cases hw : Region.wanted o (yielded ops a.tmps) = true
    · rw [if_pos hw] at h ⊢
      rcases h with h | ⟨_, _, _, hx⟩
      · exact .inl (wp_off stopC_off step h)
      · exact hx.elim
    · rw [if_neg hw] at h ⊢
      exact step _ _ h
theorem wpAnyC_of_Cr {n g : Nat} {C : World → Prop} {K : Act → World → Prop} {next : Array Bool → Bool} {L : Array Bool → Act → World → Prop} (hsel : ∀ (j : Nat) (o : Oper) cs b, ops[j]? = some o → o.op ≠ .select cs b) (hblk : BlocksF md ops n [])
    (hdone : ∀ listed a w, L listed a w → ∀ j ∈ Region.ready md ops listed, n ≤ j)
    (hK : ∀ listed a w, next listed = true → C w → K a w → wpAnyC P md ops n C L g listed a w) :
    ∀ (r : List Nat) (listed : Array Bool) (a : Act) (w : World), FInv md ops [] listed → simR P md ops n next r listed = true → C w → wpCr P ops C K r a w → wpAnyC P md ops n C L (r.length + g) listed a w
  | [], listed, a, w, inv, hB, hC, h => by rw [List.length_nil, Nat.zero_add]; exact hK _ _ _ hB hC h
  | i :: r, listed, a, w, inv, hB, hC, h => by
    simp only [simR, Bool.and_eq_true, decide_eq_true_eq] at hB
    obtain ⟨⟨hin, hB1⟩, hB2⟩ := hB
    cases ho : ops[i]? with
    | none => rw [ho] at hB1; cases hB1
    | some o =>
      rw [ho] at hB1
      simp only [Bool.and_eq_true] at hB1
      obtain ⟨hgd, hr1, hfr⟩ := hB1
      have hr : i ∈ Region.ready md ops listed := by simpa using hr1
      simp only [wpCr, ho] at h
      obtain ⟨v, hv, h⟩ := h
      have hw : Region.wanted o (yielded ops a.tmps) = true := by
        have : o.guard = none := by simpa using hgd
        simp [Region.wanted, this]
      rw [show (i :: r).length + g = (r.length + g) + 1 by simp only [List.length_cons]; omega]
      exact take_firstF (fl := []) ho hsel hblk hin hdone _ listed a w inv (fun j oj hj hne hun hno => Region.free_spec ho hfr j oj hj hne hun hno) hr (.inl ⟨hw, hv⟩) hC
        (wpAnyC_of_Cr hsel hblk hdone hK r _ _ w (inv.set hr) hB2 hC h)
/-- The law's check: n of the head, r what is only read in it, z1 the rest of it, z2 the tail. -/
def regL (P : Program) (md : Region.Mode) (ops : Array Oper) (n : Nat) (r z1 z2 : List Nat) : Bool :=
  Region.noSelect ops && decide (n ≤ ops.size) && decide (r.length + z1.length + z2.length = ops.size) && z2.all (fun t => decide (n ≤ t)) && blockB md ops n [] &&
    simR P md ops n (simZ md ops n (seqZ md ops z2) z1) r (Array.replicate ops.size false)
theorem wp_region_l {id : Nat} {Q : Exit → Act → World → Prop} {a : Act} {w : World} {l : List Oper} (C : World → Prop) (n : Nat) (r z1 z2 : List Nat) (hm : P.follows .mixedOrders = true) (hB : regL P .any l.toArray n r z1 z2 = true) (hC : C w.drew)
    (h : wpCr P l.toArray C (wpCz P l.toArray C (fun a w => wpList P l.toArray (stopN Q) (pickOps l.toArray z2) a w) z1) r a w.drew) : (Code.region id l.toArray true).wp P Q a w := by
  simp only [regL, Bool.and_eq_true, decide_eq_true_eq] at hB
  obtain ⟨⟨⟨⟨⟨hsel, hn⟩, hlen⟩, hz⟩, hblk⟩, hsim⟩ := hB
  have hz' : ∀ t ∈ z2, n ≤ t := fun t ht => by simpa using List.all_eq_true.1 hz t ht
  have inv0 : FInv .any l.toArray [] (Array.replicate l.toArray.size false) := ⟨fun j oj _ hl => (by rw [getD_replicate_false] at hl; cases hl), fun t ht => absurd ht (by simp)⟩
  let L : Array Bool → Act → World → Prop := fun listed a w => seqZ .any l.toArray z2 listed = true ∧ wpList P l.toArray (stopN Q) (pickOps l.toArray z2) a w
  have h1 := wpAnyC_of_Cr (P := P) (md := .any) (ops := l.toArray) (n := n) (g := z1.length) (C := C) (L := L) (next := simZ .any l.toArray n (seqZ .any l.toArray z2) z1) (K := wpCz P l.toArray C (fun a w => wpList P l.toArray (stopN Q) (pickOps l.toArray z2) a w) z1) (Region.noSelect_spec hsel) (blocksF_of hblk)
    (fun listed a w hL => seqZ_ge hz' hL.1)
    (fun listed a w hnx hC hK => wpAnyC_of_Cz (P := P) (md := .any) (n := n) (C := C) (L := L) (next := seqZ .any l.toArray z2) (fun listed a w hs _ hk => ⟨hs, hk⟩) z1 listed a w hnx hC hK) r _ a w.drew inv0 hsim hC h
  have h2 := wpAnyC_glue (P := P) (md := .any) (L' := LQ .any l.toArray Q) (g := z2.length) hn (fun listed a w hL => wpAnyC_of_Z z2 listed a w hL.1 hL.2) (r.length + z1.length) _ a w.drew h1
  have h3 := wpAny_of_C (P := P) (md := .any) (Q := Q) (g := 0) (n := l.toArray.size) (C := fun _ => True) (L := LQ .any l.toArray Q) (fun listed a w hL => hL) _ _ a w.drew h2
  refine wp_region_any hm ?_
  rw [show r.length + z1.length + z2.length + 0 = l.toArray.size by omega] at h3
  exact h3
end
end Go.Proofs.YtonaacdefidomaaGreat
namespace Go.Proofs.YtonaacdefidomaaGreat
open Go.RowKit
inductive CT where
  | leaf
  | rd (i : Nat) (r : CT)
  | act (i : Nat) (r : CT)
  | two (i k : Nat) (r s : CT)
def CT.len : CT → Nat
  | .leaf => 0
  | .rd _ r => r.len + 1
  | .act _ r => r.len + 1
  | .two _ _ r _ => r.len + 1
section
variable {P : Program} {md : Region.Mode} {ops : Array Oper}
def wpCT (P : Program) (ops : Array Oper) (C : World → Prop) (K : Act → World → Prop) : CT → Act → World → Prop
  | .leaf, a, w => K a w
  | .rd i r, a, w => match ops[i]? with
    | none => False
    | some o => ∃ v, YieldsE P ops C o v a ∧ wpCT P ops C K r (a.put o.dst v) w
  | .act i r, a, w => match ops[i]? with
    | none => False
    | some o => wpList P ops (stopC C (wpCT P ops C K r)) [o] a w
  | .two i k r s, a, w => match ops[i]? with
    | none => False
    | some o => match ops[k]? with
      | none => False
      | some o' => wpList P ops (stopC C (wpCT P ops C K r)) [o] a w ∧ wpList P ops (stopC C (wpCT P ops C K s)) [o'] a w
section
variable {C : World → Prop} {K : Act → World → Prop} {i k : Nat} {r s : CT} {a : Act} {w : World} {o o' : Oper}
theorem wpM_nil (h : K a w) : wpCT P ops C K .leaf a w := h
/-- what is only read, whatever world it is that meets C -/
theorem wpM_read (hi : ops[i]? = some o) (hg : o.guard = none) (v : Value) (hv : ∀ w', C w' → (execOp a.eval o).run P w' = .ok (.value v) w') (h : wpCT P ops C K r (a.put o.dst v) w) : wpCT P ops C K (.rd i r) a w := by
  have hw : Region.wanted o (yielded ops a.tmps) = true := by simp [Region.wanted, hg]
  simp only [wpCT, hi]; exact ⟨v, .inl ⟨hw, hv⟩, h⟩
theorem wpM_readg (hi : ops[i]? = some o) (hw : Region.wanted o (yielded ops a.tmps) = true) (v : Value) (hv : ∀ w', C w' → (execOp a.eval o).run P w' = .ok (.value v) w') (h : wpCT P ops C K r (a.put o.dst v) w) : wpCT P ops C K (.rd i r) a w := by
  simp only [wpCT, hi]; exact ⟨v, .inl ⟨hw, hv⟩, h⟩
/-- a guarded one that is not wanted -/
theorem wpM_skip (hi : ops[i]? = some o) (hw : Region.wanted o (yielded ops a.tmps) = false) (h : wpCT P ops C K r (a.put o.dst undef) w) : wpCT P ops C K (.rd i r) a w := by
  simp only [wpCT, hi]; exact ⟨undef, .inr ⟨hw, rfl⟩, h⟩
/-- one that hangs on no memory -/
theorem wpM_bare (hi : ops[i]? = some o) (hk : quietKind P o.op = true) (hp : plainB o a = true) (hw : Region.wanted o (yielded ops a.tmps) = true)
    (h : wpList P ops (stopQ (bare w) (fun a' _ => wpCT P ops C K r a' w)) [o] a (bare w)) : wpCT P ops C K (.rd i r) a w := by
  simp only [wpList, hw, if_true] at h
  rcases h with h | ⟨_, _, _, hx⟩
  · unfold Oper.wp at h
    cases hrun : (execOp a.eval o).run P (bare w) with
    | halt x w' =>
      rw [hrun] at h
      cases x <;> simp only [Oper.upon] at h
      exact h.elim
    | ok nx w' =>
      obtain ⟨rfl, v, rfl, hall⟩ := bare_run hk hp hrun
      rw [hrun] at h
      simp only [Oper.upon] at h
      exact wpM_readg hi hw v (fun w' _ => hall w') h.2
  · exact hx.elim
/-- a struct built -/
theorem wpM_build (hi : ops[i]? = some o) {t : TypeId} {parts : Array (Nat × Operand)} (hb : buildOf o.op = some (t, parts)) (hg : o.guard = none) (cells : Array Value) (hc : P.built t (parts.map fun (i, x) => (i, a.eval x)).toList = some cells)
    (h : wpCT P ops C K r (a.put o.dst (.agg cells)) w) : wpCT P ops C K (.rd i r) a w :=
  wpM_read hi hg (.agg cells) (fun w' _ => execOp_build hb hc w') h
theorem wpM_act (hi : ops[i]? = some o) (h : wpList P ops (stopC C (wpCT P ops C K r)) [o] a w) : wpCT P ops C K (.act i r) a w := by
  simp only [wpCT, hi]; exact h
theorem wpM_two (hi : ops[i]? = some o) (hk : ops[k]? = some o') (h : wpList P ops (stopC C (wpCT P ops C K r)) [o] a w) (h' : wpList P ops (stopC C (wpCT P ops C K s)) [o'] a w) : wpCT P ops C K (.two i k r s) a w := by
  simp only [wpCT, hi, hk]; exact ⟨h, h'⟩
end
def simM (md : Region.Mode) (ops : Array Oper) (n : Nat) (next : Array Bool → Bool) : CT → Array Bool → Bool
  | .leaf, listed => next listed
  | .rd i r, listed => decide (i < n) && ((Region.ready md ops listed).contains i && Region.free md ops listed i) && simM md ops n next r (listed.setIfInBounds i true)
  | .act i r, listed => decide (i < n) && decide (Region.ready md ops listed = [i]) && simM md ops n next r (listed.setIfInBounds i true)
  | .two i k r s, listed => decide (i < n) && decide (k < n) && decide (r.len = s.len) && decide (Region.ready md ops listed = [i, k]) && simM md ops n next r (listed.setIfInBounds i true) && simM md ops n next s (listed.setIfInBounds k true)
theorem wpOp_of_stopC {n : Nat} {C : World → Prop} {K : Act → World → Prop} {L : Array Bool → Act → World → Prop} {r : CT} {j : Nat} {o : Oper} {listed : Array Bool} {a : Act} {w : World} {f : Nat} (ho : ops[j]? = some o)
    (step : ∀ a' w', stopC C (wpCT P ops C K r) .normal a' w' → wpAnyC P md ops n C L f (listed.setIfInBounds j true) a' w')
    (h : wpList P ops (stopC C (wpCT P ops C K r)) [o] a w) : wpOp P ops noQ j (wpAnyC P md ops n C L f (listed.setIfInBounds j true)) a w := by
  unfold wpOp
  simp only [ho]
  simp only [wpList] at h
  by_cases hw : Region.wanted o (yielded ops a.tmps) = true
  · rw [if_pos hw] at h ⊢
    rcases h with h | ⟨_, _, _, hx⟩
    · exact .inl (wp_off stopC_off step h)
    · exact hx.elim
  · rw [if_neg hw] at h ⊢
    exact step _ _ h
theorem wpAnyC_of_M {n : Nat} {C : World → Prop} {K : Act → World → Prop} {next : Array Bool → Bool} {L : Array Bool → Act → World → Prop} (hsel : ∀ (j : Nat) (o : Oper) cs b, ops[j]? = some o → o.op ≠ .select cs b) (hblk : BlocksF md ops n [])
    (hdone : ∀ listed a w, L listed a w → ∀ j ∈ Region.ready md ops listed, n ≤ j) (hK : ∀ listed a w, next listed = true → C w → K a w → L listed a w) :
    ∀ (t : CT) (listed : Array Bool) (a : Act) (w : World), FInv md ops [] listed → simM md ops n next t listed = true → C w → wpCT P ops C K t a w → wpAnyC P md ops n C L t.len listed a w
  | .leaf, listed, a, w, _, hB, hC, h => ⟨hC, hK _ _ _ hB hC h⟩
  | .rd i r, listed, a, w, inv, hB, hC, h => by
    simp only [simM, Bool.and_eq_true, decide_eq_true_eq] at hB
    obtain ⟨⟨hin, hr1, hfr⟩, hB2⟩ := hB
    have hr : i ∈ Region.ready md ops listed := by simpa using hr1
    obtain ⟨_, o, ho, _⟩ := mem_ready.1 hr
    simp only [wpCT, ho] at h
    obtain ⟨v, hy, h⟩ := h
    exact take_firstF (fl := []) ho hsel hblk hin hdone _ listed a w inv (fun j oj hj hne hun hno => Region.free_spec ho hfr j oj hj hne hun hno) hr hy hC
      (wpAnyC_of_M hsel hblk hdone hK r _ _ w (inv.set hr) hB2 hC h)
  | .act i r, listed, a, w, inv, hB, hC, h => by
    simp only [simM, Bool.and_eq_true, decide_eq_true_eq] at hB
    obtain ⟨⟨hin, hrd⟩, hB2⟩ := hB
    have hr : i ∈ Region.ready md ops listed := by rw [hrd]; simp
    obtain ⟨_, o, ho, _⟩ := mem_ready.1 hr
    refine ⟨hC, by rw [hrd]; simp, fun j hj => ?_⟩
    rw [hrd] at hj
    have hji : j = i := by simpa using hj
    subst hji
    simp only [wpCT, ho] at h
    exact ⟨hin, wpOp_of_stopC ho (fun a' w' h' => wpAnyC_of_M hsel hblk hdone hK r _ a' w' (inv.set hr) hB2 h'.1 h'.2) h⟩
  | .two i k r s, listed, a, w, inv, hB, hC, h => by
    simp only [simM, Bool.and_eq_true, decide_eq_true_eq] at hB
    obtain ⟨⟨⟨⟨⟨hin, hkn⟩, hlen⟩, hrd⟩, hB1⟩, hB2⟩ := hB
    have hri : i ∈ Region.ready md ops listed := by rw [hrd]; simp
    have hrk : k ∈ Region.ready md ops listed := by rw [hrd]; simp
    obtain ⟨_, o, ho, _⟩ := mem_ready.1 hri
    obtain ⟨_, o', ho', _⟩ := mem_ready.1 hrk
    simp only [wpCT, ho, ho'] at h
    refine ⟨hC, by rw [hrd]; simp, fun j hj => ?_⟩
    rw [hrd] at hj
    simp only [List.mem_cons, List.not_mem_nil, or_false] at hj
    rcases hj with rfl | rfl
    · exact ⟨hin, wpOp_of_stopC ho (fun a' w' h' => wpAnyC_of_M hsel hblk hdone hK r _ a' w' (inv.set hri) hB1 h'.1 h'.2) h.1⟩
    · refine ⟨hkn, wpOp_of_stopC ho' (fun a' w' h' => ?_) h.2⟩
      have := wpAnyC_of_M hsel hblk hdone hK s _ a' w' (inv.set hrk) hB2 h'.1 h'.2
      rw [← hlen] at this
      exact this
/-- The law's check: n of the head, its tree, the tail. -/
def regM (md : Region.Mode) (ops : Array Oper) (n : Nat) (t : CT) (z : List Nat) : Bool :=
  Region.noSelect ops && decide (n ≤ ops.size) && decide (t.len + z.length = ops.size) && z.all (fun j => decide (n ≤ j)) && blockB md ops n [] &&
    simM md ops n (seqZ md ops z) t (Array.replicate ops.size false)
theorem wp_region_m {id : Nat} {Q : Exit → Act → World → Prop} {a : Act} {w : World} {l : List Oper} (C : World → Prop) (n : Nat) (t : CT) (z : List Nat) (hm : P.follows .mixedOrders = true) (hB : regM .any l.toArray n t z = true) (hC : C w.drew)
    (h : wpCT P l.toArray C (fun a w => wpList P l.toArray (stopN Q) (pickOps l.toArray z) a w) t a w.drew) : (Code.region id l.toArray true).wp P Q a w := by
  simp only [regM, Bool.and_eq_true, decide_eq_true_eq] at hB
  obtain ⟨⟨⟨⟨⟨hsel, hn⟩, hlen⟩, hz⟩, hblk⟩, hsim⟩ := hB
  have hz' : ∀ j ∈ z, n ≤ j := fun j hj => by simpa using List.all_eq_true.1 hz j hj
  have inv0 : FInv .any l.toArray [] (Array.replicate l.toArray.size false) := ⟨fun j oj _ hl => (by rw [getD_replicate_false] at hl; cases hl), fun t ht => absurd ht (by simp)⟩
  let L : Array Bool → Act → World → Prop := fun listed a w => seqZ .any l.toArray z listed = true ∧ wpList P l.toArray (stopN Q) (pickOps l.toArray z) a w
  have h1 := wpAnyC_of_M (P := P) (md := .any) (ops := l.toArray) (n := n) (C := C) (L := L) (next := seqZ .any l.toArray z) (K := fun a w => wpList P l.toArray (stopN Q) (pickOps l.toArray z) a w) (Region.noSelect_spec hsel) (blocksF_of hblk)
    (fun listed a w hL => seqZ_ge hz' hL.1) (fun listed a w hs _ hk => ⟨hs, hk⟩) t _ a w.drew inv0 hsim hC h
  have h2 := wpAnyC_glue (P := P) (md := .any) (L' := LQ .any l.toArray Q) (g := z.length) hn (fun listed a w hL => wpAnyC_of_Z z listed a w hL.1 hL.2) t.len _ a w.drew h1
  have h3 := wpAny_of_C (P := P) (md := .any) (Q := Q) (g := 0) (n := l.toArray.size) (C := fun _ => True) (L := LQ .any l.toArray Q) (fun listed a w hL => hL) _ _ a w.drew h2
  refine wp_region_any hm ?_
  rw [show t.len + z.length + 0 = l.toArray.size by omega] at h3
  exact h3
theorem wp_joinM {c : Code} {Q : Exit → Act → World → Prop} {a : Act} {w : World} (J : Act → World → Prop) (h1 : c.wp P (fun e a' w' => e = .normal ∧ J a' w') a w) (h2 : ∀ a' w', J a' w' → Q .normal a' w') : c.wp P Q a w :=
  Code.wp_mono (Q := fun e a' w' => e = .normal ∧ J a' w') (by rintro e a' w' ⟨rfl, h⟩; exact h2 a' w' h) h1
end
end Go.Proofs.YtonaacdefidomaaGreat
