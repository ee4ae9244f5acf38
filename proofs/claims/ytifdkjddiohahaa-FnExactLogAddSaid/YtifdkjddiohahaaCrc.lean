/-
  Crc (impl and spec) as one plain function. Conditions: a string's length is an int.
-/
import Derived.Test.YtifdkjddiohahaaNum
namespace Go.Proofs.Ytifdkjddiohahaa
open Go.RowKit

def crcStep (c : Nat) : Nat := if c % 2 = 1 then (c / 2) ^^^ 2197175160 else c / 2
def crcIter : Nat → Nat → Nat
  | 0, c => c
  | k + 1, c => crcStep (crcIter k c)
def crcByte (c : Nat) (b : UInt8) : Nat := crcIter 8 (c ^^^ b.toNat)
def crcFold (l : List UInt8) : Nat := l.foldl crcByte 4294967295
def crcL (l : List UInt8) : Nat := 4294967295 - crcFold l
theorem crcStep_lt {c : Nat} (h : c < 4294967296) : crcStep c < 4294967296 := by
  unfold crcStep
  split
  · exact Nat.xor_lt_two_pow (n := 32) (by omega) (by omega)
  · omega
theorem crcIter_lt {c : Nat} (h : c < 4294967296) : ∀ k, crcIter k c < 4294967296
  | 0 => h
  | k + 1 => crcStep_lt (crcIter_lt h k)
theorem crcByte_lt {c : Nat} {b : UInt8} (h : c < 4294967296) : crcByte c b < 4294967296 :=
  crcIter_lt (Nat.xor_lt_two_pow (n := 32) (by omega) (by have := b.toNat_lt; omega)) 8
theorem crcFold_lt (l : List UInt8) : crcFold l < 4294967296 := by
  have : ∀ (l : List UInt8) (c : Nat), c < 4294967296 → l.foldl crcByte c < 4294967296 := by
    intro l
    induction l with
    | nil => intro c h; exact h
    | cons b l ih => intro c h; exact ih _ (crcByte_lt h)
  exact this l _ (by omega)
theorem crcL_lt (l : List UInt8) : crcL l ≤ 4294967295 := by unfold crcL; omega
theorem crcFold_snoc (l : List UInt8) (k : Nat) (h : k < l.length) : crcFold (l.take (k + 1)) = crcIter 8 (crcFold (l.take k) ^^^ l[k].toNat) := by
  rw [List.take_succ_eq_append_getElem h, crcFold, List.foldl_append]
  rfl
theorem xor_byte (c : Nat) (b : UInt8) (h : c < 4294967296) : bits .xor .i64 (c : Int) (b.toNat : Int) = ((c ^^^ b.toNat : Nat) : Int) :=
  i64_xor_nat c b.toNat (by omega) (by have := b.toNat_lt; omega)
theorem xor_poly (c : Nat) (h : c < 4294967296) : bits .xor .i64 (c : Int) 2197175160 = ((c ^^^ 2197175160 : Nat) : Int) :=
  i64_xor_nat c 2197175160 (by omega) (by omega)
theorem and_1 (c : Nat) (h : c < 4294967296) : bits .and .i64 (c : Int) 1 = ((c % 2 : Nat) : Int) := by
  have := i64_and_nat c 1 (by omega) (by omega)
  rw [Nat.and_one_is_mod] at this
  exact this

set_option maxRecDepth 100000 in
set_option maxHeartbeats 400000 in
theorem sCrc_any (l : List UInt8) (w : World) (h63 : (l.length : Int) ≤ 9223372036854775807) :
    Calls Try.prog 104 #[.string (bs l)] w fun e w' => e = .returned (.int .i64 ((crcL l : Nat) : Int)) ∧ w = w' := by
  go_enter Try.func104, Try.ntmps104
  go_wp2
  go_loop [3, 4] (fun c i => ∃ (k q : Nat), k ≤ l.length ∧ i = .int .i64 (k : Int) ∧ q < 4294967296 ∧ q = crcFold (l.take k) ∧ c = .int .i64 (q : Int)) (fun _ i => l.length - (intOf i).toNat)
  case atStart => exact ⟨0, 4294967295, Nat.zero_le _, rfl, by omega, rfl, rfl⟩
  case round =>
    obtain ⟨k, q, hk, rfl, hq, hqe, rfl⟩ := hrel
    by_cases hlt : k < l.length
    · have hs := crcFold_snoc l k hlt
      rw [← hqe] at hs
      have hb : l[k].toNat < 256 := l[k].toNat_lt
      have hx := xor_byte q l[k] hq
      have hxl : q ^^^ l[k].toNat < 4294967296 := Nat.xor_lt_two_pow (n := 32) (by omega) (by omega)
      have H1 := Lib.hid hqe; clear hqe
      have H2 := Lib.hid hs; clear hs
      have H3 := Lib.hid hx; clear hx
      have H4 := Lib.hid hxl; clear hxl
      go_wp2
      go_loop [3, 5] (fun c i => ∃ (j p : Nat), j ≤ 8 ∧ i = .int .i64 (j : Int) ∧ p < 4294967296 ∧ p = crcIter j (q ^^^ l[k].toNat) ∧ c = .int .i64 (p : Int)) (fun _ i => 8 - (intOf i).toNat)
      case atStart => exact ⟨0, q ^^^ l[k].toNat, by omega, rfl, H4.out, rfl, by rw [H3.out]⟩
      case round =>
        obtain ⟨j, p, hj, rfl, hp, hpe, rfl⟩ := hrel
        have K1 := Lib.hid hpe; clear hpe
        by_cases hjt : j < 8
        · have hpl : p < 4294967296 ∧ 0 ≤ (p : Int) / 2 ∧ (p : Int) / 2 < 4294967296 := by omega
          by_cases hodd : p % 2 = 1
          · have hbb : ((p : Int) % 2 == 1) = true := by skip; simp; omega
            have hx2 := xor_poly (p / 2) (by omega)
            have hst : (p / 2) ^^^ 2197175160 = crcIter (j + 1) (q ^^^ l[k].toNat) := by rw [crcIter, ← K1.out, crcStep, if_pos hodd]
            have hlt2 : (p / 2) ^^^ 2197175160 < 4294967296 := Nat.xor_lt_two_pow (n := 32) (by omega) (by omega)
            have K2 := Lib.hid hx2; clear hx2
            have K3 := Lib.hid hst; clear hst
            have K4 := Lib.hid hlt2; clear hlt2
            go_wp2
            refine ⟨⟨j + 1, (p / 2) ^^^ 2197175160, by omega, by go_num, K4.out, K3.out, ?_⟩, by simp only [intOf]; omega⟩
            rw [← K2.out]
            rfl
          · have hbb : ((p : Int) % 2 == 1) = false := by skip; simp; omega
            have hst : p / 2 = crcIter (j + 1) (q ^^^ l[k].toNat) := by rw [crcIter, ← K1.out, crcStep, if_neg hodd]
            have K3 := Lib.hid hst; clear hst
            go_wp2
            exact ⟨⟨j + 1, p / 2, by omega, by go_num, by omega, K3.out, by go_num⟩, by simp only [intOf]; omega⟩
        · have hj8 : j = 8 := by omega
          subst hj8
          go_wp2
          exact ⟨⟨k + 1, p, by omega, by go_num, hp, by rw [H2.out, ← K1.out], rfl⟩, by simp only [intOf]; omega⟩
    · have hkl : k = l.length := by omega
      subst hkl
      have hfin : crcL l = 4294967295 - q := by rw [crcL, hqe, List.take_length]
      have H1 := Lib.hid hqe; clear hqe
      have H2 := Lib.hid hfin; clear hfin
      go_wp2
      go_ret
      exact ⟨ret_eq (by rw [H2.out]; go_num), rfl⟩

set_option maxRecDepth 100000 in
set_option maxHeartbeats 400000 in
theorem iCrc_any (l : List UInt8) (w : World) (h63 : (l.length : Int) ≤ 9223372036854775807) :
    Calls Try.prog 106 #[.string (bs l)] w fun e w' => e = .returned (.int .i64 ((crcL l : Nat) : Int)) ∧ w = w' := by
  go_enter Try.func106, Try.ntmps106
  go_wp2
  go_loop [3, 4] (fun c i => ∃ (k q : Nat), k ≤ l.length ∧ i = .int .i64 (k : Int) ∧ q < 4294967296 ∧ q = crcFold (l.take k) ∧ c = .int .i64 (q : Int)) (fun _ i => l.length - (intOf i).toNat)
  case atStart => exact ⟨0, 4294967295, Nat.zero_le _, rfl, by omega, rfl, rfl⟩
  case round =>
    obtain ⟨k, q, hk, rfl, hq, hqe, rfl⟩ := hrel
    by_cases hlt : k < l.length
    · have hs := crcFold_snoc l k hlt
      rw [← hqe] at hs
      have hb : l[k].toNat < 256 := l[k].toNat_lt
      have hx := xor_byte q l[k] hq
      have hxl : q ^^^ l[k].toNat < 4294967296 := Nat.xor_lt_two_pow (n := 32) (by omega) (by omega)
      have H1 := Lib.hid hqe; clear hqe
      have H2 := Lib.hid hs; clear hs
      have H3 := Lib.hid hx; clear hx
      have H4 := Lib.hid hxl; clear hxl
      go_wp2
      go_loop [3, 18] (fun c i => ∃ (j p : Nat), j ≤ 8 ∧ i = .int .i64 (j : Int) ∧ p < 4294967296 ∧ p = crcIter j (q ^^^ l[k].toNat) ∧ c = .int .i64 (p : Int)) (fun _ i => 8 - (intOf i).toNat)
      case atStart => exact ⟨0, q ^^^ l[k].toNat, by omega, rfl, H4.out, rfl, by rw [H3.out]⟩
      case round =>
        obtain ⟨j, p, hj, rfl, hp, hpe, rfl⟩ := hrel
        have K1 := Lib.hid hpe; clear hpe
        by_cases hjt : j < 8
        · have hpl : p < 4294967296 ∧ 0 ≤ (p : Int) / 2 ∧ (p : Int) / 2 < 4294967296 := by omega
          by_cases hodd : p % 2 = 1
          · have hbb : (bits BinOp.and IntKind.i64 (p : Int) 1 == 1) = true := by rw [and_1 p hp]; simp; omega
            have hx2 := xor_poly (p / 2) (by omega)
            have hst : (p / 2) ^^^ 2197175160 = crcIter (j + 1) (q ^^^ l[k].toNat) := by rw [crcIter, ← K1.out, crcStep, if_pos hodd]
            have hlt2 : (p / 2) ^^^ 2197175160 < 4294967296 := Nat.xor_lt_two_pow (n := 32) (by omega) (by omega)
            have K2 := Lib.hid hx2; clear hx2
            have K3 := Lib.hid hst; clear hst
            have K4 := Lib.hid hlt2; clear hlt2
            go_wp2
            refine ⟨⟨j + 1, (p / 2) ^^^ 2197175160, by omega, by go_num, K4.out, K3.out, ?_⟩, by simp only [intOf]; omega⟩
            rw [← K2.out]
            rfl
          · have hbb : (bits BinOp.and IntKind.i64 (p : Int) 1 == 1) = false := by rw [and_1 p hp]; simp; omega
            have hst : p / 2 = crcIter (j + 1) (q ^^^ l[k].toNat) := by rw [crcIter, ← K1.out, crcStep, if_neg hodd]
            have K3 := Lib.hid hst; clear hst
            go_wp2
            exact ⟨⟨j + 1, p / 2, by omega, by go_num, by omega, K3.out, by go_num⟩, by simp only [intOf]; omega⟩
        · have hj8 : j = 8 := by omega
          subst hj8
          go_wp2
          exact ⟨⟨k + 1, p, by omega, by go_num, hp, by rw [H2.out, ← K1.out], rfl⟩, by simp only [intOf]; omega⟩
    · have hkl : k = l.length := by omega
      subst hkl
      have hfin : crcL l = 4294967295 - q := by rw [crcL, hqe, List.take_length]
      have H1 := Lib.hid hqe; clear hqe
      have H2 := Lib.hid hfin; clear hfin
      go_wp2
      go_ret
      exact ⟨ret_eq (by rw [H2.out]; go_num), rfl⟩


theorem sCrc_b (l : List UInt8) (w : World) (h63 : (l.length : Int) ≤ 9223372036854775807) :
    Calls Try.prog 104 #[.string (bs l)] w fun e w' => e = .returned (.int .i64 ((crcL l : Nat) : Int)) ∧ Below w.heap.size w w' :=
  (sCrc_any l w h63).mono fun _ _ h => ⟨h.1, by rw [← h.2]; exact Below.refl _ _⟩

theorem iCrc_b (l : List UInt8) (w : World) (h63 : (l.length : Int) ≤ 9223372036854775807) :
    Calls Try.prog 106 #[.string (bs l)] w fun e w' => e = .returned (.int .i64 ((crcL l : Nat) : Int)) ∧ Below w.heap.size w w' :=
  (iCrc_any l w h63).mono fun _ _ h => ⟨h.1, by rw [← h.2]; exact Below.refl _ _⟩

end Go.Proofs.Ytifdkjddiohahaa
