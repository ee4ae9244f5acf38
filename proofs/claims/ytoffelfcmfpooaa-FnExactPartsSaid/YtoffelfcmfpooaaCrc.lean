/-
  Crc (impl and spec) as one plain function. Conditions: a string's length is an int.
-/
import Derived.Test.YtoffelfcmfpooaaNum
namespace Go.Proofs.Ytoffelfcmfpooaa
open Go.RowKit

def crcStep (c : Nat) : Nat := if c % 2 = 1 then (c / 2) ^^^ 2197175160 else c / 2
def crcIter : Nat → Nat → Nat
  | 0, c => c
  | k + 1, c => crcStep (crcIter k c)
def crcByte (c : Nat) (b : UInt8) : Nat := crcIter 8 (c ^^^ b.toNat)
def crcFold (l : List UInt8) : Nat := l.foldl crcByte 4294967295
def crcL (l : List UInt8) : Nat := 4294967295 - crcFold l
theorem crcStep_lt {c : Nat} (h : c < 4294967296) : crcStep c < 4294967296 := by
  unfold crcStep
  split
  · exact Nat.xor_lt_two_pow (n := 32) (by omega) (by omega)
  · omega
theorem crcIter_lt {c : Nat} (h : c < 4294967296) : ∀ k, crcIter k c < 4294967296
  | 0 => h
  | k + 1 => crcStep_lt (crcIter_lt h k)
theorem crcByte_lt {c : Nat} {b : UInt8} (h : c < 4294967296) : crcByte c b < 4294967296 :=
  crcIter_lt (Nat.xor_lt_two_pow (n := 32) (by omega) (by have := b.toNat_lt; omega)) 8
theorem crcFold_lt (l : List UInt8) : crcFold l < 4294967296 := by
  have : ∀ (l : List UInt8) (c : Nat), c < 4294967296 → l.foldl crcByte c < 4294967296 := by
    intro l
    induction l with
    | nil => intro c h; exact h
    | cons b l ih => intro c h; exact ih _ (crcByte_lt h)
  exact this l _ (by omega)
theorem crcL_lt (l : List UInt8) : crcL l ≤ 4294967295 := by unfold crcL; omega
theorem crcFold_snoc (l : List UInt8) (k : Nat) (h : k < l.length) : crcFold (l.take (k + 1)) = crcIter 8 (crcFold (l.take k) ^^^ l[k].toNat) := by
  rw [List.take_succ_eq_append_getElem h, crcFold, List.foldl_append]
  rfl
theorem xor_byte (c : Nat) (b : UInt8) (h : c < 4294967296) : bits .xor .i64 (c : Int) (b.toNat : Int) = ((c ^^^ b.toNat : Nat) : Int) :=
  i64_xor_nat c b.toNat (by omega) (by have := b.toNat_lt; omega)
theorem xor_poly (c : Nat) (h : c < 4294967296) : bits .xor .i64 (c : Int) 2197175160 = ((c ^^^ 2197175160 : Nat) : Int) :=
  i64_xor_nat c 2197175160 (by omega) (by omega)
theorem and_1 (c : Nat) (h : c < 4294967296) : bits .and .i64 (c : Int) 1 = ((c % 2 : Nat) : Int) := by
  have := i64_and_nat c 1 (by omega) (by omega)
  rw [Nat.and_one_is_mod] at this
  exact this






























































































































end Go.Proofs.Ytoffelfcmfpooaa
