/-
  The reference's drawing of inputs (l1New, l1Byte, l1Below, l1Once, l1Text): it ends, with numbers in range and strings not too long, and touches its own cell alone. Conditions: a code of at most 2^20 bytes; bounds from 1 to 256.
-/
import Derived.Test.YtmhbfeglnhangaaDoorSha3
namespace Go.Proofs.YtmhbfeglnhangaaDoor
open Go.RowKit

def Cur (B g : Nat) (w : World) : Prop := ∃ (A : Option Addr) (n c i : Nat) (h : Int) (xs : List UInt8), Blk w g 64 [.slice A n c, .int .i64 (i : Int), .int .i64 h].toArray ∧ Reads w 1 A n (xs.map u8v) ∧ i ≤ n ∧ n ≤ 1048576 ∧ B ≤ g ∧ ∀ ad, A = some ad → 0 < n → ad.block < B
theorem ad_none {w : World} {ad : Addr} {v : Value} (h : w.cell? (ad.add 0) = some v) : ∃ b o, ad = ⟨b, o, none⟩ := by
  obtain ⟨b, o, sp⟩ := ad
  cases sp with
  | none => exact ⟨b, o, rfl⟩
  | some x =>
    simp only [Addr.add, if_true, World.cell?] at h
    split at h <;> cases h
theorem and255 (X : Int) : ∃ m : Nat, m ≤ 255 ∧ bits .and .i64 X 255 = (m : Int) := by
  refine ⟨(BitVec.ofInt 64 X).toNat &&& 255, Nat.and_le_right, ?_⟩
  show IntKind.i64.wrap ((BitVec.ofInt 64 X &&& BitVec.ofInt 64 (255 : Int)).toNat : Int) = _
  have e2 : (BitVec.ofInt 64 (255 : Int)).toNat = 255 := by decide
  have h : (BitVec.ofInt 64 X).toNat &&& 255 ≤ 255 := Nat.and_le_right
  rw [BitVec.toNat_and, e2, IntKind.wrap_i64]
  omega
theorem reads_set {w : World} {g k n : Nat} {A : Option Addr} {xs : List Value} (h : Reads w 1 A n xs) (hA : ∀ ad, A = some ad → 0 < n → ad.block ≠ g) (v : Value) : Reads (w.setCell ⟨g, k, none⟩ v) 1 A n xs :=
  ⟨h.1, fun hn => by
    obtain ⟨ad, e, hc⟩ := h.2 hn
    refine ⟨ad, e, fun j u hu => ?_⟩
    have h2 := hc j u hu
    rw [World.cell?_of_block (w := w) (w' := w.setCell ⟨g, k, none⟩ v) (Below.heap_setCell _ _ _ _ (by rw [block_of_add]; exact hA ad e hn))]
    exact h2⟩
theorem grown_set (w : World) (g k : Nat) (v : Value) : w.grownBy (w.setCell ⟨g, k, none⟩ v) (some g) :=
  ⟨rfl, rfl, rfl, by simp [World.setCell], fun b hb hn => Below.heap_setCell _ _ _ _ (fun e => hn (by rw [e]))⟩
theorem gdrew {a b : World} {r : Option Nat} (h : a.grownBy b r) : a.grownBy b.drew r := ⟨h.os, h.tape, h.output, h.size, h.block⟩
theorem grown_trans {a b c : World} {r : Option Nat} (h : a.grownBy b r) (k : b.grownBy c r) : a.grownBy c r :=
  ⟨k.os.trans h.os, k.tape.trans h.tape, k.output.trans h.output, Nat.le_trans h.size k.size, fun j hj hn => (k.block j (Nat.lt_of_lt_of_le hj h.size) hn).trans (h.block j hj hn)⟩
set_option maxRecDepth 100000 in
set_option maxHeartbeats 1000000 in
theorem l1Byte_any (B g : Nat) (w : World) (hc : Cur B g w) :
    Calls Tryd.prog 41 #[.pointer (some ⟨g, 0, none⟩)] w fun e w' => ∃ x : Nat, x ≤ 255 ∧ e = .returned (.int .i64 (x : Int)) ∧ Cur B g w' ∧ w.grownBy w' (some g) := by
  obtain ⟨A, n, c, i, h, xs, hb, hr, hin, hn, hBg, hA0⟩ := hc
  have hA : ∀ ad, A = some ad → 0 < n → ad.block ≠ g := fun ad e hn => by have := hA0 ad e hn; omega
  have c0 := blk_cell0 hb 0 rfl
  have c1 := blk_cell0 hb 1 rfl
  have c2 := blk_cell0 hb 2 rfl
  have f1 := hb.frozen 1
  have f2 := hb.frozen 2
  by_cases hlt : i < n
  · obtain ⟨ad, rfl, hcs⟩ := hr.2 (by omega)
    have hl : i < xs.length := by have := hr.1; simp at this; omega
    have hl0 : 0 < xs.length := by omega
    obtain ⟨gA, oA, rfl⟩ := ad_none (hcs 0 (u8v xs[0]) (by rw [List.getElem?_map, List.getElem?_eq_getElem hl0]; rfl))
    have hd : decide ((i : Int) < (n : Int)) = true := by simp; omega
    go_enter Tryd.func41, Tryd.ntmps41
    go_wp2
    refine wp_region_x 13 [0, 1, 2, 3, 4, 5, 6, 7, 8, 9, 10, 11, 12] (by kernel_rfl) (by kernel_rfl) ?_
    iterate 13 (refine wpX_quiet rfl (by kernel_rfl) rfl ?_; go_wp2; refine ⟨rfl, ?_⟩)
    refine wpX_nil ?_; simp only [List.drop_succ_cons, List.drop_zero]
    go_wp2_with fail
    generalize wrap64 (wrap64 (h * 6364136223846793005) + 1442695040888963407) = h'
    obtain ⟨m1, hm1, he1⟩ := and255 (bits .xor .i64 (h' / 8589934592) (h' / 35184372088832))
    rw [he1]
    generalize h' / 8589934592 = q1
    generalize h' / 35184372088832 = q2
    generalize bits .xor .i64 q1 q2 = q3
    clear he1
    have hw1 : Blk (w.setCell ⟨g, 2, none⟩ (.int .i64 h')) g 64 [.slice (some ⟨gA, oA, none⟩) n c, .int .i64 (i : Int), .int .i64 h'].toArray := by
      have := hb.set 2 (.int .i64 h')
      exact this
    have hr1 := reads_set (k := 2) hr hA (.int .i64 h')
    have hg1 := grown_set w g 2 (.int .i64 h')
    generalize w.setCell ⟨g, 2, none⟩ (.int .i64 h') = w1 at hw1 hr1 hg1 ⊢
    clear c0 c1 c2 f1 f2 hb hr
    have c0 := blk_cell0 hw1 0 rfl
    have c1 := blk_cell0 hw1 1 rfl
    have f1 := hw1.frozen 1
    go_wp2
    refine wp_region_x 10 [0, 1, 2, 3, 4, 5, 6, 7, 8, 9] (by kernel_rfl) (by kernel_rfl) ?_
    iterate 10 (refine wpX_quiet rfl (by kernel_rfl) rfl ?_; go_wp2; refine ⟨rfl, ?_⟩)
    refine wpX_nil ?_; simp only [List.drop_succ_cons, List.drop_zero]
    have cA : w1.cell? ⟨gA, oA + i, none⟩ = some (.int .u8 ((xs[i].toNat : Nat) : Int)) := by
      obtain ⟨ad, e, hcs1⟩ := hr1.2 (by omega)
      injection e with e
      subst e
      have := hcs1 i (u8v xs[i]) (by rw [List.getElem?_map, List.getElem?_eq_getElem hl]; rfl)
      rw [add_plain] at this
      exact this
    have hxb := xs[i].toNat_lt
    go_wp2
    refine wp_region_x 15 [0, 1, 2, 3, 4, 5, 6, 7, 8, 9, 10, 11, 12, 13, 14] (by kernel_rfl) (by kernel_rfl) ?_
    iterate 15 (refine wpX_quiet rfl (by kernel_rfl) rfl ?_; go_wp2; refine ⟨rfl, ?_⟩)
    refine wpX_nil ?_; simp only [List.drop_succ_cons, List.drop_zero]
    go_wp2_with fail
    obtain ⟨m2, hm2, he2⟩ := and255 ((m1 : Int) + (xs[i].toNat : Int))
    rw [he2]
    go_wp2
    go_ret
    refine ⟨m2, hm2, ret_eq rfl, ⟨some ⟨gA, oA, none⟩, n, c, i + 1, h', xs, ?_, reads_set hr1 hA _, by omega, hn, hBg, hA0⟩, ?_⟩
    · have := hw1.set 1 (.int .i64 ((i : Int) + 1))
      exact this
    · exact grown_trans hg1 (gdrew (gdrew (gdrew (grown_set w1 g 1 _))))
  · have hd : decide ((i : Int) < (n : Int)) = false := by simp; omega
    go_enter Tryd.func41, Tryd.ntmps41
    go_wp2
    refine wp_region_x 13 [0, 1, 2, 3, 4, 5, 6, 7, 8, 9, 10, 11, 12] (by kernel_rfl) (by kernel_rfl) ?_
    iterate 13 (refine wpX_quiet rfl (by kernel_rfl) rfl ?_; go_wp2; refine ⟨rfl, ?_⟩)
    refine wpX_nil ?_; simp only [List.drop_succ_cons, List.drop_zero]
    go_wp2_with fail
    generalize wrap64 (wrap64 (h * 6364136223846793005) + 1442695040888963407) = h'
    obtain ⟨m1, hm1, he1⟩ := and255 (bits .xor .i64 (h' / 8589934592) (h' / 35184372088832))
    rw [he1]
    generalize h' / 8589934592 = q1
    generalize h' / 35184372088832 = q2
    generalize bits .xor .i64 q1 q2 = q3
    clear he1
    have hw1 : Blk (w.setCell ⟨g, 2, none⟩ (.int .i64 h')) g 64 [.slice A n c, .int .i64 (i : Int), .int .i64 h'].toArray := by
      have := hb.set 2 (.int .i64 h')
      exact this
    have hr1 := reads_set (k := 2) hr hA (.int .i64 h')
    have hg1 := grown_set w g 2 (.int .i64 h')
    generalize w.setCell ⟨g, 2, none⟩ (.int .i64 h') = w1 at hw1 hr1 hg1 ⊢
    clear c0 c1 c2 f1 f2 hb hr
    have c0 := blk_cell0 hw1 0 rfl
    have c1 := blk_cell0 hw1 1 rfl
    have f1 := hw1.frozen 1
    go_wp2
    refine wp_region_x 10 [0, 1, 2, 3, 4, 5, 6, 7, 8, 9] (by kernel_rfl) (by kernel_rfl) ?_
    iterate 10 (refine wpX_quiet rfl (by kernel_rfl) rfl ?_; go_wp2; refine ⟨rfl, ?_⟩)
    refine wpX_nil ?_; simp only [List.drop_succ_cons, List.drop_zero]
    go_wp2
    go_ret
    exact ⟨m1, hm1, ret_eq rfl, ⟨A, n, c, i, h', xs, hw1, hr1, hin, hn, hBg, hA0⟩, gdrew (gdrew hg1)⟩
theorem grown_alloc (w : World) (o : Obj) : w.grownBy (w.alloc o) none :=
  ⟨rfl, rfl, rfl, by simp, fun k hk _ => Below.block ((Below.refl _ w).alloc (Nat.le_refl _) o) k hk⟩
theorem grown_weak {a b : World} {r : Option Nat} (h : a.grownBy b none) : a.grownBy b r := ⟨h.os, h.tape, h.output, h.size, fun k hk _ => h.block k hk (by simp)⟩
theorem Cur.keep {B g : Nat} {w w' : World} {r : Option Nat} (h : Cur B g w) (hg : w.grownBy w' r) (hr : ∀ k, r = some k → g < k) : Cur B g w' := by
  obtain ⟨A, n, c, i, h0, xs, hb, hrd, hin, hn, hBg, hA⟩ := h
  refine ⟨A, n, c, i, h0, xs, hb.keep (hg.block g hb.lt (fun e => by have := hr g e.symm; omega)), ⟨hrd.1, fun hn0 => ?_⟩, hin, hn, hBg, hA⟩
  obtain ⟨ad, e, hc⟩ := hrd.2 hn0
  refine ⟨ad, e, fun j u hu => ?_⟩
  have h2 := hc j u hu
  have hlt := World.block_lt_of_cell? _ _ h2
  have hb2 := hA ad e hn0
  rw [World.cell?_of_block (hg.block _ hlt (fun e2 => by have := hr _ e2.symm; rw [block_of_add] at this; omega))]
  exact h2
theorem Cur.lt {B g : Nat} {w : World} (h : Cur B g w) : g < w.heap.size := by
  obtain ⟨A, n, c, i, h0, xs, hb, _⟩ := h
  exact hb.lt
set_option maxRecDepth 100000 in
theorem l1Below_any (B g n : Nat) (w : World) (hc : Cur B g w) (h1 : 1 ≤ n) (h2 : n ≤ 256) :
    Calls Tryd.prog 40 #[.pointer (some ⟨g, 0, none⟩), .int .i64 (n : Int)] w fun e w' => ∃ x : Nat, x < n ∧ e = .returned (.int .i64 (x : Int)) ∧ Cur B g w' ∧ w.grownBy w' (some g) := by
  have hd1 : decide ((n : Int) ≤ 0) = false := by simp; omega
  have hd2 : decide ((n : Int) ≤ 256) = true := by simp; omega
  go_enter Tryd.func40, Tryd.ntmps40
  go_wp2_with fail
  refine (l1Byte_any B g _ hc).mono ?_
  rintro e w2 ⟨x, hx, rfl, hc2, hg⟩
  have HC := Lib.hid hc2; clear hc2
  have HG := Lib.hid hg; clear hg
  have hne : ((n : Int) == 0) = false := by simp; omega
  go_wp2
  go_ret
  exact ⟨x % n, Nat.mod_lt _ (by omega), ret_eq (by first | rfl | simp), HC.out, HG.out⟩
set_option maxRecDepth 100000 in
theorem l1Once_any (B g n : Nat) (w : World) (hc : Cur B g w) (h1 : 1 ≤ n) (h2 : n ≤ 256) :
    Calls Tryd.prog 28 #[.pointer (some ⟨g, 0, none⟩), .int .i64 (n : Int)] w fun e w' => ∃ b : Bool, e = .returned (.bool b) ∧ Cur B g w' ∧ w.grownBy w' (some g) := by
  go_enter Tryd.func28, Tryd.ntmps28
  go_wp2_with fail
  refine (l1Below_any B g n _ hc h1 h2).mono ?_
  rintro e w2 ⟨x, hx, rfl, hc2, hg⟩
  have HC := Lib.hid hc2; clear hc2
  have HG := Lib.hid hg; clear hg
  go_wp2
  go_ret
  exact ⟨_, ret_eq rfl, HC.out, HG.out⟩
theorem own_byte {w : World} {base e n : Nat} {v : Value} {l : List UInt8} {R : Int} (h : w.ownsRow base e 1 v n (l.map u8v ++ [.int .u8 R])) (h0 : 0 ≤ R) (h1 : R ≤ 255) : ∃ b : UInt8, w.ownsRow base e 1 v n ((l ++ [b]).map u8v) := by
  refine ⟨UInt8.ofNat R.toNat, ?_⟩
  rw [List.map_append]
  have : [UInt8.ofNat R.toNat].map u8v = [.int .u8 R] := by
    simp only [List.map_cons, List.map_nil, u8v]
    rw [ofNat_toNat (by omega), Int.toNat_of_nonneg h0]
  rw [this]
  exact h
set_option maxRecDepth 100000 in
set_option maxHeartbeats 1000000 in
theorem l1Text_any (B g : Nat) (w : World) (hc : Cur B g w) :
    Calls Tryd.prog 27 #[.pointer (some ⟨g, 0, none⟩), .int .i64 70] w fun e w' => ∃ l : List UInt8, l.length ≤ 70 ∧ e = .returned (.string (bs l)) ∧ Cur B g w' ∧ w.grownBy w' (some g) := by
  have hgl := hc.lt
  go_enter Tryd.func27, Tryd.ntmps27
  go_wp2_with fail
  refine (l1Below_any B g 4 _ (hc.keep (grown_alloc w _) (fun k hk => by cases hk)) (by omega) (by omega)).mono ?_
  rintro e w2 ⟨s, hs, rfl, hc2, hg2⟩
  have hO : (w.alloc (.cells #[] 5)).ownsRow w.heap.size 5 1 (.slice (some ⟨w.heap.size, 0, none⟩) 0 0) 0 (([] : List UInt8).map u8v) := World.ownsRow_made w #[] 0 (Nat.le_refl _) (by simp [maxLen]) rfl
  have hO2 := hO.kept hg2 (.inr (by simp [Value.ownBlock]; omega))
  have hG2 : w.grownBy w2 (some g) := grown_trans (grown_weak (grown_alloc w _)) hg2
  clear hg2 hO hc
  generalize Value.slice (some ⟨w.heap.size, 0, none⟩) 0 0 = v0 at hO2 ⊢
  go_wp2_with fail
  refine (l1Below_any B g 71 _ hc2 (by omega) (by omega)).mono ?_
  rintro e w3 ⟨k0, hk0, rfl, hc3, hg3⟩
  have hO3 := hO2.kept hg3 (.inr (fun e => by have := (hO2.lt g e).1; omega))
  have hG3 : w.grownBy w3 (some g) := grown_trans hG2 hg3
  clear hg3 hc2 hO2 hG2
  go_wp2_with fail
  go_loopw [5, 7] (fun v i wr => ∃ (k : Nat) (l : List UInt8), i = .int .i64 (k : Int) ∧ l.length + k ≤ 70 ∧ wr.ownsRow w.heap.size 5 1 v l.length (l.map u8v) ∧ Cur B g wr ∧ w.grownBy wr (some g)) (fun _ i _ => (intOf i).toNat)
  case atStart => exact ⟨k0, [], rfl, by simp; omega, hO3, hc3, hG3⟩
  case round =>
    clear hO3 hc3 hG3
    obtain ⟨k, l, rfl, hkl, hO, hC, hG⟩ := hrel
    by_cases hk : 0 < k
    · obtain ⟨k', rfl⟩ : ∃ k', k = k' + 1 := ⟨k - 1, by omega⟩
      go_wp2_with fail
      refine (l1Byte_any B g _ hC).mono ?_
      rintro e w4 ⟨x, hx, rfl, hc4, hg4⟩
      have hO4 := hO.kept hg4 (.inr (fun e => by have := (hO.lt g e).1; omega))
      have hG4 : w.grownBy w4 (some g) := grown_trans hG hg4
      have hsz : w.heap.size ≤ w4.heap.size := hG4.size
      clear hO hC hG hg4
      have HO := Lib.hid hO4; clear hO4
      have HC := Lib.hid hc4; clear hc4
      have HG := Lib.hid hG4; clear hG4
      go_wp2_with (first
        | (at_builtin; refine wpList_app E_u8 _ rfl (.tmp 31) (.tmp 34) rfl w.heap.size _ l.length _ rfl (HO.out.alloc _) _ _ _ _ rfl (Reads.new (e := 5) rfl) (by intro u hu; rw [List.mem_singleton.1 hu]; rfl) (by omega) (Nat.le_trans hsz (by simp)) ?_; intro v' w5 hown5 hgr5 hat5)
        | fail)
      all_goals
        obtain ⟨b, hb⟩ := own_byte hown5 (by omega) (by omega)
        refine ⟨⟨k', l ++ [b], by first | rfl | go_num, by simp; omega, by rw [List.length_append]; exact hb, (HC.out.keep (grown_alloc _ _) (fun k hk => by cases hk)).keep hgr5 (fun k hk => by have := (HO.out.lt k hk).1; omega), grownBy_trans_new (grown_trans HG.out (grown_weak (grown_alloc _ _))) hgr5 (fun k hk => .inr (HO.out.lt k hk).1)⟩, by simp only [intOf]; omega⟩
    · have hk0 : k = 0 := by omega
      subst hk0
      have HO := Lib.hid hO; clear hO
      go_wp2_with (first
        | (refine wpList_bytes_own _ rfl 24 9 _ rfl 5 E_u8.ht Tryd.underlying5 Tryd.underlying9 w.heap.size _ _ l rfl (by exact HO.out) ?_)
        | fail)
      go_ret
      exact ⟨l, by omega, ret_eq rfl, hC, hG⟩
set_option maxRecDepth 100000 in
set_option maxHeartbeats 1000000 in
theorem l1New_any (A : Option Addr) (n c : Nat) (xs : List UInt8) (w : World) (hr : Reads w 1 A n (xs.map u8v)) (hn : n ≤ 1048576) :
    Calls Tryd.prog 26 #[.slice A n c] w fun e w' => ∃ g, e = .returned (.pointer (some ⟨g, 0, none⟩)) ∧ Cur w.heap.size g w' ∧ Below w.heap.size w w' := by
  have hxl : xs.length = n := by have := hr.1; simpa using this
  have hAb : ∀ ad, A = some ad → 0 < n → ad.block < w.heap.size := fun ad e h0 => by
    obtain ⟨ad', e', hcs⟩ := hr.2 h0
    have : ad = ad' := by rw [e] at e'; injection e'
    subst this
    have h1 := hcs 0 (u8v (xs[0]'(by omega))) (by rw [List.getElem?_map, List.getElem?_eq_getElem (by omega)]; rfl)
    have := World.block_lt_of_cell? _ _ h1
    rwa [block_of_add] at this
  go_enter Tryd.func26, Tryd.ntmps26
  go_wp2_with fail
  go_loopw [3, 4] (fun h i wr => ∃ (k : Nat) (H : Int), k ≤ n ∧ i = .int .i64 (k : Int) ∧ h = .int .i64 H ∧ w = wr) (fun _ i _ => n - (intOf i).toNat)
  case atStart => exact ⟨0, _, Nat.zero_le _, rfl, rfl, rfl⟩
  case round =>
    obtain ⟨k, H, hk, rfl, rfl, rfl⟩ := hrel
    by_cases hlt : k < n ∧ k < 4000
    · obtain ⟨hl1, hl2⟩ := hlt
      have hd1 : decide ((k : Int) < (n : Int)) = true := by simp; omega
      have hd2 : decide ((k : Int) < 4000) = true := by simp; omega
      obtain ⟨ad, rfl, hcs⟩ := hr.2 (by omega)
      have hl0 : 0 < xs.length := by omega
      obtain ⟨gA, oA, rfl⟩ := ad_none (hcs 0 (u8v xs[0]) (by rw [List.getElem?_map, List.getElem?_eq_getElem hl0]; rfl))
      have hl : k < xs.length := by omega
      have cA : w.cell? ⟨gA, oA + k, none⟩ = some (.int .u8 ((xs[k].toNat : Nat) : Int)) := by
        have := hcs k (u8v xs[k]) (by rw [List.getElem?_map, List.getElem?_eq_getElem hl]; rfl)
        rw [add_plain] at this
        exact this
      go_wp2
      exact ⟨⟨k + 1, _, by omega, by go_num, by first | rfl | trivial, by first | rfl | trivial⟩, by simp only [intOf]; omega⟩
    · by_cases hl1 : k < n
      · have hd1 : decide ((k : Int) < (n : Int)) = true := by simp; omega
        have hd2 : decide ((k : Int) < 4000) = false := by simp; omega
        go_wp2
        go_ret
        exact ⟨_, ret_eq rfl, ⟨A, n, c, 0, H, xs, blk_new _ _ _, hr.below ((Below.refl _ _).alloc (Nat.le_refl _) _), Nat.zero_le _, hn, Nat.le_refl _, hAb⟩, (by repeat' (first | with_reducible exact Below.refl _ _ | with_reducible exact BW.out | with_reducible refine Below.setCell ?_ ?_ _ | with_reducible refine Below.alloc ?_ ?_ _ | with_reducible refine Below.drew ?_ | (simp; done) | (simp; omega) | omega))⟩
      · have hd1 : decide ((k : Int) < (n : Int)) = false := by simp; omega
        go_wp2
        go_ret
        exact ⟨_, ret_eq rfl, ⟨A, n, c, 0, H, xs, blk_new _ _ _, hr.below ((Below.refl _ _).alloc (Nat.le_refl _) _), Nat.zero_le _, hn, Nat.le_refl _, hAb⟩, (by repeat' (first | with_reducible exact Below.refl _ _ | with_reducible exact BW.out | with_reducible refine Below.setCell ?_ ?_ _ | with_reducible refine Below.alloc ?_ ?_ _ | with_reducible refine Below.drew ?_ | (simp; done) | (simp; omega) | omega))⟩

set_option maxRecDepth 100000 in
set_option maxHeartbeats 1000000 in
theorem drawSha_any (A : Option Addr) (n c : Nat) (xs : List UInt8) (w : World) (hr : Reads w 1 A n (xs.map u8v)) (hn : n ≤ 1048576) :
    Calls Tryd.prog 13 #[.slice A n c] w fun e w' => ∃ l : List UInt8, l.length ≤ 140 ∧ e = .returned (.string (bs l)) ∧ Below w.heap.size w w' := by
  go_enter Tryd.func13, Tryd.ntmps13
  go_wp2_with fail
  refine (l1New_any A n c xs _ hr hn).mono ?_
  rintro e w2 ⟨g, rfl, hc2, hb2⟩
  have hgB : w.heap.size ≤ g := by obtain ⟨_, _, _, _, _, _, _, _, _, _, h, _⟩ := hc2; exact h
  go_wp2_with fail
  refine (l1Text_any _ g _ hc2).mono ?_
  rintro e w3 ⟨l1, hl1, rfl, hc3, hg3⟩
  have hb3 : Below w.heap.size w w3 := hb2.grown hg3 hb2.size (fun k hk => by injection hk with hk; omega)
  clear hb2 hg3 hc2
  go_wp2_with fail
  refine (l1Once_any _ g 6 _ hc3 (by omega) (by omega)).mono ?_
  rintro e w4 ⟨b, rfl, hc4, hg4⟩
  have hb4 : Below w.heap.size w w4 := hb3.grown hg4 hb3.size (fun k hk => by injection hk with hk; omega)
  clear hb3 hg4 hc3
  cases b
  · go_wp2
    go_ret
    exact ⟨l1, by omega, ret_eq rfl, hb4⟩
  · go_wp2_with fail
    refine (l1Text_any _ g _ hc4).mono ?_
    rintro e w5 ⟨l2, hl2, rfl, hc5, hg5⟩
    have hb5 : Below w.heap.size w w5 := hb4.grown hg5 hb4.size (fun k hk => by injection hk with hk; omega)
    clear hb4 hg5 hc4
    have H5 := Lib.hid hb5; clear hb5
    clear hc5
    go_wp2
    go_ret
    exact ⟨l1 ++ l2, by simp; omega, ret_eq rfl, H5.out⟩

end Go.Proofs.YtmhbfeglnhangaaDoor
