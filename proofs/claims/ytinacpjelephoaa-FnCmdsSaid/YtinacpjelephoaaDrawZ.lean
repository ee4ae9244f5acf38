/-
  More of what the reference draws out of a code, with its values (the beginning, numbers, a text spoilt). Conditions: a code of at most 2^20 bytes.
-/
import Derived.Test.YtinacpjelephoaaDrawY
namespace Go.Proofs.Ytinacpjelephoaa
open Go.RowKit

set_option maxRecDepth 100000 in
set_option maxHeartbeats 1000000 in
theorem l1New_x (A : Option Addr) (n c : Nat) (xs : List UInt8) (w : World) (hr : Reads w 1 A n (xs.map u8v)) (hn : n ≤ 1048576) :
    Calls Try.prog 29 #[.slice A n c] w fun e w' => ∃ g, e = .returned (.pointer (some ⟨g, 0, none⟩)) ∧ Cur w.heap.size g xs (startF xs) w' ∧ Below w.heap.size w w' := by
  have hxl : xs.length = n := by have := hr.1; simpa using this
  have hAb : ∀ ad, A = some ad → 0 < n → ad.block < w.heap.size := fun ad e h0 => by
    obtain ⟨ad', e', hcs⟩ := hr.2 h0
    have : ad = ad' := by rw [e] at e'; injection e'
    subst this
    have h1 := hcs 0 (u8v (xs[0]'(by omega))) (by rw [List.getElem?_map, List.getElem?_eq_getElem (by omega)]; rfl)
    have := World.block_lt_of_cell? _ _ h1
    rwa [block_of_add] at this
  have H0 := Lib.hid (show (10101 : Int) + (n : Int) = newH xs 0 by rw [newH, hxl])
  have HSU := Lib.hid (fun k => newH_succ xs k)
  have HF := Lib.hid (fun k (h : k = min xs.length 4000) => show (⟨0, newH xs k⟩ : DSt) = startF xs by rw [h]; rfl)
  obtain ⟨NH, hNH⟩ : ∃ NH, NH = newH xs := ⟨_, rfl⟩
  rw [← hNH] at H0 HSU HF
  clear hNH
  generalize startF xs = SF at *
  go_enter Try.func29, Try.ntmps29
  go_wp2_with fail
  go_loopw [3, 4] (fun h i wr => ∃ (k : Nat), k ≤ n ∧ k ≤ 4000 ∧ i = .int .i64 (k : Int) ∧ h = .int .i64 (NH k) ∧ w = wr) (fun _ i _ => n - (intOf i).toNat)
  case atStart => exact ⟨0, Nat.zero_le _, by omega, rfl, by rw [← H0.out], rfl⟩
  case round =>
    obtain ⟨k, hk, hk4, rfl, rfl, rfl⟩ := hrel
    by_cases hlt : k < n ∧ k < 4000
    · obtain ⟨hl1, hl2⟩ := hlt
      have hd1 : decide ((k : Int) < (n : Int)) = true := by simp; omega
      have hd2 : decide ((k : Int) < 4000) = true := by simp; omega
      obtain ⟨ad, rfl, hcs⟩ := hr.2 (by omega)
      have hl0 : 0 < xs.length := by omega
      obtain ⟨gA, oA, rfl⟩ := ad_none (hcs 0 (u8v xs[0]) (by rw [List.getElem?_map, List.getElem?_eq_getElem hl0]; rfl))
      have hl : k < xs.length := by omega
      have cA : w.cell? ⟨gA, oA + k, none⟩ = some (.int .u8 ((xs[k].toNat : Nat) : Int)) := by
        have := hcs k (u8v xs[k]) (by rw [List.getElem?_map, List.getElem?_eq_getElem hl]; rfl)
        rw [add_plain] at this
        exact this
      have hsu := HSU.out k
      have hgd : xs.getD k 0 = xs[k] := by simp [hl]
      rw [hgd] at hsu
      have HS1 := Lib.hid hsu; clear hsu hgd
      have hxb := xs[k].toNat_lt
      go_wp2
      exact ⟨⟨k + 1, by omega, by omega, by go_num, by rw [HS1.out], by first | rfl | trivial⟩, by simp only [intOf]; omega⟩
    · have HF2 := Lib.hid (HF.out k (by omega))
      by_cases hl1 : k < n
      · have hd1 : decide ((k : Int) < (n : Int)) = true := by simp; omega
        have hd2 : decide ((k : Int) < 4000) = false := by simp; omega
        go_wp2
        go_ret
        exact ⟨_, ret_eq rfl, ⟨A, n, c, by rw [← HF2.out]; exact blk_new _ _ _, hr.below ((Below.refl _ _).alloc (Nat.le_refl _) _), hxl.symm, by rw [← HF2.out]; exact Nat.zero_le _, hn, Nat.le_refl _, hAb⟩, (by repeat' (first | with_reducible exact Below.refl _ _ | with_reducible exact BW.out | with_reducible refine Below.setCell ?_ ?_ _ | with_reducible refine Below.alloc ?_ ?_ _ | with_reducible refine Below.drew ?_ | (simp; done) | (simp; omega) | omega))⟩
      · have hd1 : decide ((k : Int) < (n : Int)) = false := by simp; omega
        go_wp2
        go_ret
        exact ⟨_, ret_eq rfl, ⟨A, n, c, by rw [← HF2.out]; exact blk_new _ _ _, hr.below ((Below.refl _ _).alloc (Nat.le_refl _) _), hxl.symm, by rw [← HF2.out]; exact Nat.zero_le _, hn, Nat.le_refl _, hAb⟩, (by repeat' (first | with_reducible exact Below.refl _ _ | with_reducible exact BW.out | with_reducible refine Below.setCell ?_ ?_ _ | with_reducible refine Below.alloc ?_ ?_ _ | with_reducible refine Below.drew ?_ | (simp; done) | (simp; omega) | omega))⟩

set_option maxRecDepth 100000 in
set_option maxHeartbeats 1000000 in
theorem l1PickInt_x (B g : Nat) (xs : List UInt8) (s : DSt) (L : List Int) (g2 n c : Nat) (w : World) (hc : Cur B g xs s w) (hn : n = L.length) (h0 : 1 ≤ n) (h1 : n ≤ 256) (hg2 : g2 ≠ g) (hr : Reads w 1 (some ⟨g2, 0, none⟩) n (L.map (Value.int .i64))) :
    Calls Try.prog 52 #[.pointer (some ⟨g, 0, none⟩), .slice (some ⟨g2, 0, none⟩) n c] w fun e w' => e = .returned (.int .i64 (L.getD (belowF xs n s).1 0)) ∧ Cur B g xs (belowF xs n s).2 w' ∧ w.grownBy w' (some g) := by
  have H1 := Lib.hid (fun w hc => l1Below_x B g n xs s w hc (by omega) (by omega))
  have hlt := belowF_lt xs n s (by omega)
  generalize belowF xs n s = R at *
  obtain ⟨rv, rs⟩ := R
  simp only [] at hlt ⊢
  have HR := Lib.hid hr; clear hr
  have HN := Lib.hid hn; clear hn
  go_enter Try.func52, Try.ntmps52
  go_wp2_with fail
  refine (H1.out _ hc).mono ?_
  rintro e w2 ⟨rfl, hc2, hg⟩
  have hrv : rv < L.length := by have := HN.out; omega
  have hcell : w2.cell? ⟨g2, rv, none⟩ = some (.int .i64 L[rv]) := by
    obtain ⟨ad, e, hcs⟩ := HR.out.2 (by omega)
    injection e with e
    subst e
    have h2 := hcs rv (.int .i64 L[rv]) (by rw [List.getElem?_map, List.getElem?_eq_getElem hrv]; rfl)
    rw [add_plain, Nat.zero_add] at h2
    have hb := World.block_lt_of_cell? _ _ h2
    rw [World.cell?_of_block (hg.block _ hb (fun e => hg2 (by injection e)))]
    exact h2
  have hgd : L.getD rv 0 = L[rv] := by simp [hrv]
  have HGD := Lib.hid hgd; clear hgd
  have HC := Lib.hid hc2; clear hc2
  have HG := Lib.hid hg; clear hg
  generalize L[rv] = val at *
  go_wp2
  go_ret
  exact ⟨ret_eq (by rw [HGD.out]; rfl), HC.out, HG.out⟩

theorem belowF_int (xs : List UInt8) (n : Nat) (s : DSt) (hn : 1 ≤ n) : 0 ≤ ((belowF xs n s).1 : Int) ∧ ((belowF xs n s).1 : Int) ≤ (n : Int) - 1 := by
  have := belowF_lt xs n s hn
  omega
theorem numF_ok (xs : List UInt8) (s : DSt) : i64ok (numF xs s).1 := by
  unfold numF
  simp only []
  have h17 := belowF_lt xs 17 (belowF xs 8 s).2 (by omega)
  have ha := belowF_lt xs 1000000000 (belowF xs 8 s).2 (by omega)
  have hb := belowF_lt xs 1000000000 (belowF xs 1000000000 (belowF xs 8 s).2).2 (by omega)
  have hc := belowF_lt xs 100000 (belowF xs 8 s).2 (by omega)
  have hd := belowF_lt xs 70000 (belowF xs 8 s).2 (by omega)
  split
  · have : ∀ i, i < 17 → -9223372036854775808 ≤ pickList.getD i 0 ∧ pickList.getD i 0 ≤ 9223372036854775807 := by decide
    exact this _ h17
  · split
    · generalize (belowF xs 1000000000 (belowF xs 8 s).2).1 = a at *
      generalize (belowF xs 1000000000 (belowF xs 1000000000 (belowF xs 8 s).2).2).1 = b at *
      have h1 : a * b ≤ 999999999 * 999999999 := Nat.mul_le_mul (by omega) (by omega)
      have h2 : (a : Int) * (b : Int) = ((a * b : Nat) : Int) := by push_cast; rfl
      rw [h2]
      constructor <;> omega
    · split
      · constructor <;> omega
      · constructor <;> omega
theorem reads_new_ints (v : World) (cs : Array Value) (e : Nat) (L : List Int) (hc : cs.toList = L.map (Value.int .i64)) : Reads (v.alloc (.cells cs e)) 1 (some ⟨v.heap.size, 0, none⟩) L.length (L.map (Value.int .i64)) := by
  rw [← hc]
  refine Reads.new ?_
  have := congrArg List.length hc
  simpa using this
set_option maxRecDepth 100000 in
set_option maxHeartbeats 2000000 in
theorem l1Num_x (B g : Nat) (xs : List UInt8) (s : DSt) (w : World) (hc : Cur B g xs s w) :
    Calls Try.prog 30 #[.pointer (some ⟨g, 0, none⟩)] w fun e w' => e = .returned (.int .i64 (numF xs s).1) ∧ Cur B g xs (numF xs s).2 w' ∧ w.grownBy w' (some g) := by
  unfold numF
  simp only []
  have H1 := Lib.hid (fun w hc => l1Below_x B g 8 xs s w hc (by omega) (by omega))
  have hk8 := belowF_lt xs 8 s (by omega)
  generalize belowF xs 8 s = R at *
  obtain ⟨k, s1⟩ := R
  simp only [] at hk8 ⊢
  by_cases h0 : k = 0
  · subst h0
    rw [if_pos rfl]
    have H2 := Lib.hid (fun w g2 c hc hg hr => l1PickInt_x B g xs s1 pickList g2 17 c w hc rfl (by omega) (by omega) hg hr)
    generalize belowF xs 17 s1 = R2 at *
    obtain ⟨r2, s2⟩ := R2
    simp only [] at H2 ⊢
    generalize pickList.getD r2 0 = val at *
    go_enter Try.func30, Try.ntmps30
    go_wp2_with fail
    refine (H1.out _ hc).mono ?_
    rintro e w2 ⟨rfl, hc2, hg2⟩
    have hgl := hc2.lt
    go_wp2_with fail
    refine (H2.out _ _ _ (hc2.keep (grown_alloc w2 _) (fun k hk => by cases hk)) (by omega) (reads_new_ints w2 _ _ pickList rfl)).mono ?_
    rintro e w3 ⟨rfl, hc3, hg3⟩
    have HC := Lib.hid hc3; clear hc3 hc2
    have HG := Lib.hid (grown_trans hg2 (grown_trans (grown_weak (grown_alloc w2 _)) hg3)); clear hg2 hg3
    go_wp2
    go_ret
    exact ⟨ret_eq rfl, HC.out, HG.out⟩
  · rw [if_neg h0]
    have hb0 : ((k : Int) == 0) = false := by simp only [beq_eq_false_iff_ne]; omega
    by_cases h1 : k = 1
    · subst h1
      rw [if_pos rfl]
      have H2 := Lib.hid (fun w hc => l1Below_x B g 1000000000 xs s1 w hc (by omega) (by omega))
      have H3 := Lib.hid (fun w hc => l1Below_x B g 1000000000 xs (belowF xs 1000000000 s1).2 w hc (by omega) (by omega))
      have ha := belowF_lt xs 1000000000 s1 (by omega)
      have hb := belowF_lt xs 1000000000 (belowF xs 1000000000 s1).2 (by omega)
      generalize belowF xs 1000000000 (belowF xs 1000000000 s1).2 = R3 at *
      generalize belowF xs 1000000000 s1 = R2 at *
      obtain ⟨b, s3⟩ := R3
      obtain ⟨a, s2⟩ := R2
      simp only [] at ha hb H2 H3 ⊢
      have hab : wrap64 ((a : Int) * (b : Int)) = (a : Int) * (b : Int) := by
        have h1 : a * b ≤ 999999999 * 999999999 := Nat.mul_le_mul (by omega) (by omega)
        have h2 : (a : Int) * (b : Int) = ((a * b : Nat) : Int) := by push_cast; rfl
        rw [h2]
        unfold wrap64; omega
      have HAB := Lib.hid hab; clear hab
      clear h0 hb0
      go_enter Try.func30, Try.ntmps30
      go_wp2_with fail
      refine (H1.out _ hc).mono ?_
      rintro e w2 ⟨rfl, hc2, hg2⟩
      go_wp2_with fail
      refine (H2.out _ hc2).mono ?_
      rintro e w3 ⟨rfl, hc3, hg3⟩
      go_wp2_with fail
      refine (H3.out _ hc3).mono ?_
      rintro e w4 ⟨rfl, hc4, hg4⟩
      have HC := Lib.hid hc4; clear hc4 hc2 hc3
      have HG := Lib.hid (grown_trans hg2 (grown_trans hg3 hg4)); clear hg2 hg3 hg4
      go_wp2
      go_ret
      exact ⟨ret_eq (by first | rfl | (show Value.int .i64 _ = _; rw [HAB.out])), HC.out, HG.out⟩
    · rw [if_neg h1]
      have hb1 : ((k : Int) == 1) = false := by simp only [beq_eq_false_iff_ne]; omega
      by_cases h2 : k = 2
      · subst h2
        rw [if_pos rfl]
        have H2 := Lib.hid (fun w hc => l1Below_x B g 100000 xs s1 w hc (by omega) (by omega))
        have ha := belowF_lt xs 100000 s1 (by omega)
        generalize belowF xs 100000 s1 = R2 at *
        obtain ⟨a, s2⟩ := R2
        simp only [] at ha H2 ⊢
        clear h0 hb0 h1 hb1
        go_enter Try.func30, Try.ntmps30
        go_wp2_with fail
        refine (H1.out _ hc).mono ?_
        rintro e w2 ⟨rfl, hc2, hg2⟩
        go_wp2_with fail
        refine (H2.out _ hc2).mono ?_
        rintro e w3 ⟨rfl, hc3, hg3⟩
        have HC := Lib.hid hc3; clear hc3 hc2
        have HG := Lib.hid (grown_trans hg2 hg3); clear hg2 hg3
        go_wp2
        go_ret
        exact ⟨ret_eq (by first | rfl | simp), HC.out, HG.out⟩
      · rw [if_neg h2]
        have hb2 : ((k : Int) == 2) = false := by simp only [beq_eq_false_iff_ne]; omega
        have H2 := Lib.hid (fun w hc => l1Below_x B g 70000 xs s1 w hc (by omega) (by omega))
        have ha := belowF_lt xs 70000 s1 (by omega)
        generalize belowF xs 70000 s1 = R2 at *
        obtain ⟨a, s2⟩ := R2
        simp only [] at ha H2 ⊢
        clear h0 h1 h2
        go_enter Try.func30, Try.ntmps30
        go_wp2_with fail
        refine (H1.out _ hc).mono ?_
        rintro e w2 ⟨rfl, hc2, hg2⟩
        go_wp2_with fail
        refine (H2.out _ hc2).mono ?_
        rintro e w3 ⟨rfl, hc3, hg3⟩
        have HC := Lib.hid hc3; clear hc3 hc2
        have HG := Lib.hid (grown_trans hg2 hg3); clear hg2 hg3
        go_wp2
        go_ret
        exact ⟨ret_eq (by first | rfl | simp), HC.out, HG.out⟩

end Go.Proofs.Ytinacpjelephoaa
