/-
  Frames (impl and spec): Frame, the scanner, frameAt, Unframe as plain functions. Conditions: a string's length is an int; Unframe at most 2^40 bytes.
-/
import Derived.Test.YtoffelfcmfpooaaReadVar
import Derived.Test.YtoffelfcmfpooaaNumC
import Derived.Test.YtoffelfcmfpooaaCrc
namespace Go.Proofs.Ytoffelfcmfpooaa
open Go.RowKit

def sizedL (l : List UInt8) : List UInt8 := varF (l.length : Int) ++ l
theorem sizedL_length (l : List UInt8) : (sizedL l).length ≤ l.length + 7 := by
  unfold sizedL
  have := varF_length (l.length : Int)
  rw [List.length_append]
  omega
def frameL (l : List UInt8) : List UInt8 := if l.length ≤ 200 then fixedL 4 (crcL (sizedL l)) ++ sizedL l else []
theorem crc_fixed (l : List UInt8) : fixedF ((crcL l : Nat) : Int) 4 = fixedL 4 (crcL l) := by
  have h1 := crcL_lt l
  have h2 : (256 : Nat) ^ 4 = 4294967296 := by decide
  exact fixedF_nat (width := 4) (by omega) (by omega) (by omega)
theorem frameL_length {l : List UInt8} (h : l.length ≤ 200) : (frameL l).length = 4 + (varF (l.length : Int)).length + l.length := by
  rw [frameL, if_pos h, List.length_append, fixedL_length, sizedL, List.length_append]
  omega
theorem frameL_le (l : List UInt8) : (frameL l).length ≤ 211 := by
  by_cases h : l.length ≤ 200
  · have := varF_length (l.length : Int)
    rw [frameL_length h]
    omega
  · rw [frameL, if_neg h]; simp




























































































/-! ### the scanner -/
def scanNum (rest : List UInt8) (bad : Bool) : Nat × List UInt8 × Bool :=
  if bad = true ∨ (readVarF rest).2 = 0 then (0, rest, true) else ((readVarF rest).1, rest.drop (readVarF rest).2, false)
def scanCut (rest : List UInt8) (bad : Bool) (n : Int) : List UInt8 × List UInt8 × Bool :=
  if bad = true ∨ ¬ (0 ≤ n ∧ n ≤ rest.length) then ([], rest, true) else (rest.take n.toNat, rest.drop n.toNat, false)
theorem only_of_below {a w : World} (h : Below a.heap.size a w) (row : Option Nat) : a.grownBy w row := ⟨h.os, h.tape, h.output, h.size, fun i hi _ => h.block i hi⟩
























































































end Go.Proofs.Ytoffelfcmfpooaa
