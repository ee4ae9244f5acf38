/-
  ReadFixed (impl and spec) as plain functions. Conditions: a string's length is an int.
-/
import Derived.Test.YtinacpjelephoaaNumC
namespace Go.Proofs.Ytinacpjelephoaa
open Go.RowKit

def readN (l : List UInt8) : Nat := l.foldl (fun n b => n * 256 + b.toNat) 0
theorem readN_snoc (l : List UInt8) (k : Nat) (h : k < l.length) : readN (l.take (k + 1)) = readN (l.take k) * 256 + l[k].toNat := by
  rw [List.take_succ_eq_append_getElem h]
  rw [readN, List.foldl_append]
  rfl
theorem readN_lt : ∀ (l : List UInt8) (n : Nat), l.foldl (fun n b => n * 256 + b.toNat) n < (n + 1) * 256 ^ l.length
  | [], n => by simp
  | b :: l, n => by
    rw [List.foldl_cons, List.length_cons, Nat.pow_succ]
    have h1 := readN_lt l (n * 256 + b.toNat)
    have h2 : b.toNat < 256 := b.toNat_lt
    have h3 : (n * 256 + b.toNat + 1) * 256 ^ l.length ≤ ((n + 1) * 256) * 256 ^ l.length := Nat.mul_le_mul_right _ (by omega)
    have h4 : (n + 1) * 256 * 256 ^ l.length = (n + 1) * (256 ^ l.length * 256) := by rw [Nat.mul_assoc, Nat.mul_comm 256]
    omega
theorem readN_bd (l : List UInt8) (k : Nat) (h : k ≤ 6) : readN (l.take k) < 281474976710656 := by
  have h1 := readN_lt (l.take k) 0
  have h2 : (l.take k).length ≤ 6 := Nat.le_trans (List.length_take_le _ _) h
  have h3 : 256 ^ (l.take k).length ≤ 256 ^ 6 := Nat.pow_le_pow_right (by omega) h2
  have h4 : (256:Nat) ^ 6 = 281474976710656 := by decide
  unfold readN
  omega
def readFixedF (l : List UInt8) (width : Int) : Nat × Bool := if 1 ≤ width ∧ width ≤ 7 ∧ width ≤ l.length then (readN (l.take width.toNat), true) else (0, false)
theorem or_low (a b : Nat) (ha : a < 281474976710656) (hb : b < 256) : bits .or .i64 ((a : Int) * 256) (b : Int) = ((a * 256 + b : Nat) : Int) := by
  rw [show (a : Int) * 256 = ((a * 256 : Nat) : Int) by omega, i64_or_nat (a * 256) b (by omega) (by omega)]
  congr 1
  have h1 := Nat.two_pow_add_eq_or_of_lt (i := 8) (b := b) (by omega) a
  have e : 2 ^ 8 * a = a * 256 := by omega
  rw [e] at h1
  exact h1.symm
















































set_option maxRecDepth 100000 in
set_option maxHeartbeats 400000 in
theorem iReadFixed_any (l : List UInt8) (width : Int) (w : World) (h63 : (l.length : Int) ≤ 9223372036854775807) :
    Calls Try.prog 11 #[.string (bs l), .int .i64 width] w fun e w' => e = .returned (.tuple #[.int .i64 ((readFixedF l width).1 : Int), .bool (readFixedF l width).2]) ∧ Below w.heap.size w w' := by
  by_cases h1 : 1 ≤ width ∧ width ≤ 7
  · obtain ⟨W, rfl⟩ := Int.eq_ofNat_of_zero_le (show 0 ≤ width by omega)
    obtain ⟨h3, h4⟩ := h1
    by_cases h2 : W ≤ l.length
    · have hfin : readFixedF l (W : Int) = (readN (l.take W), true) := by rw [readFixedF, if_pos ⟨h3, h4, by omega⟩, Int.toNat_natCast]
      have hd : decide (l.length < W) = false := by simp; omega
      have Hfin := Lib.hid hfin; clear hfin
      go_enter Try.func11, Try.ntmps11
      go_wp2_with (go_at_call 32; refine (within_yes _ _ _ _ (by omega)).mono ?_; rintro e w' ⟨rfl, rfl⟩)
      go_loop [6, 7] (fun n i => ∃ (k q : Nat), k ≤ W ∧ i = .int .i64 (k : Int) ∧ q < 72057594037927936 ∧ q = readN (l.take k) ∧ n = .int .i64 (q : Int)) (fun _ i => W - (intOf i).toNat)
      case atStart => exact ⟨0, 0, Nat.zero_le _, rfl, by omega, rfl, rfl⟩
      case round =>
        obtain ⟨k, q, hk, rfl, hq, hqe, rfl⟩ := hrel
        by_cases hlt : k < W
        · have hkl : k < l.length := by omega
          have hb : l[k].toNat < 256 := l[k].toNat_lt
          have hs := readN_snoc l k hkl
          have hbd := readN_bd l k (by omega)
          rw [← hqe] at hbd hs
          have H1 := Lib.hid hqe; clear hqe
          have H2 := Lib.hid hs; clear hs
          go_wp2
          have ho := or_low q l[k].toNat (by omega) hb
          exact ⟨⟨k + 1, q * 256 + l[k].toNat, by omega, by go_num, by omega, H2.out.symm, by rw [← ho]⟩, by simp only [intOf]; omega⟩
        · have hkW : k = W := by omega
          subst hkW
          have H1 := Lib.hid hqe; clear hqe
          go_wp2
          go_ret2
          exact ⟨ret_eq (by rw [Hfin.out, ← H1.out]; rfl), Below.refl _ _⟩
    · have hfin : readFixedF l (W : Int) = (0, false) := by rw [readFixedF, if_neg (by omega)]
      have Hfin := Lib.hid hfin; clear hfin
      have hd : decide (l.length < W) = true := by simp; omega
      go_enter Try.func11, Try.ntmps11
      go_wp2_with (go_at_call 32; refine (within_yes _ _ _ _ (by omega)).mono ?_; rintro e w' ⟨rfl, rfl⟩)
      go_ret2
      exact ⟨ret_eq (by rw [Hfin.out]; rfl), Below.refl _ _⟩
  · have hfin : readFixedF l width = (0, false) := by rw [readFixedF, if_neg (fun h => h1 ⟨h.1, h.2.1⟩)]
    have Hfin := Lib.hid hfin; clear hfin
    go_enter Try.func11, Try.ntmps11
    go_wp2_with (go_at_call 32; refine (within_no _ _ _ _ h1).mono ?_; rintro e w' ⟨rfl, rfl⟩)
    go_ret2
    exact ⟨ret_eq (by rw [Hfin.out]; rfl), Below.refl _ _⟩

end Go.Proofs.Ytinacpjelephoaa
