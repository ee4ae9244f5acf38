/-
  Frames (impl and spec): Frame, the scanner, frameAt, Unframe as plain functions. Conditions: a string's length is an int; Unframe at most 2^40 bytes.
-/
import Derived.Test.YtinacpjelephoaaReadVar
import Derived.Test.YtinacpjelephoaaNumC
import Derived.Test.YtinacpjelephoaaCrc
namespace Go.Proofs.Ytinacpjelephoaa
open Go.RowKit

def sizedL (l : List UInt8) : List UInt8 := varF (l.length : Int) ++ l
theorem sizedL_length (l : List UInt8) : (sizedL l).length ≤ l.length + 7 := by
  unfold sizedL
  have := varF_length (l.length : Int)
  rw [List.length_append]
  omega
def frameL (l : List UInt8) : List UInt8 := if l.length ≤ 200 then fixedL 4 (crcL (sizedL l)) ++ sizedL l else []
theorem crc_fixed (l : List UInt8) : fixedF ((crcL l : Nat) : Int) 4 = fixedL 4 (crcL l) := by
  have h1 := crcL_lt l
  have h2 : (256 : Nat) ^ 4 = 4294967296 := by decide
  exact fixedF_nat (width := 4) (by omega) (by omega) (by omega)
theorem frameL_length {l : List UInt8} (h : l.length ≤ 200) : (frameL l).length = 4 + (varF (l.length : Int)).length + l.length := by
  rw [frameL, if_pos h, List.length_append, fixedL_length, sizedL, List.length_append]
  omega
theorem frameL_le (l : List UInt8) : (frameL l).length ≤ 211 := by
  by_cases h : l.length ≤ 200
  · have := varF_length (l.length : Int)
    rw [frameL_length h]
    omega
  · rw [frameL, if_neg h]; simp


set_option maxRecDepth 100000 in
set_option maxHeartbeats 400000 in
theorem iSized_any (l : List UInt8) (w : World) (h63 : (l.length : Int) ≤ 9223372036854775000) :
    Calls Try.prog 38 #[.string (bs l)] w fun e w' => e = .returned (.string (bs (sizedL l))) ∧ Below w.heap.size w w' := by
  have hv := varF_length (l.length : Int)
  go_enter Try.func38, Try.ntmps38
  go_wp2_with (go_at_call 8; refine (iVar_any _ _).mono ?_; rintro e w1 ⟨rfl, hb1⟩; have B1 := Lib.hid hb1; clear hb1)
  go_ret
  exact ⟨rfl, B1.out⟩

set_option maxRecDepth 100000 in
set_option maxHeartbeats 400000 in
theorem sSized_any (l : List UInt8) (w : World) (h63 : (l.length : Int) ≤ 9223372036854775000) :
    Calls Try.prog 44 #[.string (bs l)] w fun e w' => e = .returned (.string (bs (sizedL l))) ∧ Below w.heap.size w w' := by
  have hv := varF_length (l.length : Int)
  go_enter Try.func44, Try.ntmps44
  go_wp2_with (go_at_call 34; refine (sVar_any _ _).mono ?_; rintro e w1 ⟨rfl, hb1⟩; have B1 := Lib.hid hb1; clear hb1)
  go_ret
  exact ⟨rfl, B1.out⟩







































































/-! ### the scanner -/
def scanNum (rest : List UInt8) (bad : Bool) : Nat × List UInt8 × Bool :=
  if bad = true ∨ (readVarF rest).2 = 0 then (0, rest, true) else ((readVarF rest).1, rest.drop (readVarF rest).2, false)
def scanCut (rest : List UInt8) (bad : Bool) (n : Int) : List UInt8 × List UInt8 × Bool :=
  if bad = true ∨ ¬ (0 ≤ n ∧ n ≤ rest.length) then ([], rest, true) else (rest.take n.toNat, rest.drop n.toNat, false)
theorem only_of_below {a w : World} (h : Below a.heap.size a w) (row : Option Nat) : a.grownBy w row := ⟨h.os, h.tape, h.output, h.size, fun i hi _ => h.block i hi⟩

def ScanCell (w : World) (b : Nat) (rest : List UInt8) (bad : Bool) : Prop := w.heap[b]? = some (.cells #[.string (bs rest), .bool bad] 59 (0, 0))
theorem ScanCell.c0 {w : World} {b : Nat} {rest : List UInt8} {bad : Bool} (h : ScanCell w b rest bad) : w.cell? ⟨b, 0, none⟩ = some (.string (bs rest)) := cell_of_row w b 0 _ _ _ h
theorem ScanCell.c1 {w : World} {b : Nat} {rest : List UInt8} {bad : Bool} (h : ScanCell w b rest bad) : w.cell? ⟨b, 1, none⟩ = some (.bool bad) := cell_of_row w b 1 _ _ _ h
theorem ScanCell.fr {w : World} {b : Nat} {rest : List UInt8} {bad : Bool} (h : ScanCell w b rest bad) (i : Nat) : w.frozen? ⟨b, i, none⟩ = false := by
  unfold ScanCell at h
  simp [World.frozen?, h]
theorem ScanCell.lt {w : World} {b : Nat} {rest : List UInt8} {bad : Bool} (h : ScanCell w b rest bad) : b < w.heap.size := (Array.getElem?_eq_some_iff.1 h).1
theorem ScanCell.below {w w' : World} {b : Nat} {rest : List UInt8} {bad : Bool} (h : ScanCell w b rest bad) (hb : Below w.heap.size w w') : ScanCell w' b rest bad := (hb.block b h.lt).trans h
theorem ScanCell.set0 {w : World} {b : Nat} {rest : List UInt8} {bad : Bool} (h : ScanCell w b rest bad) (r : List UInt8) : ScanCell (w.setCell ⟨b, 0, none⟩ (.string (bs r))) b r bad := by
  unfold ScanCell at *
  simp [World.setCell, Array.getElem?_modify, h]
theorem ScanCell.set1 {w : World} {b : Nat} {rest : List UInt8} {bad : Bool} (h : ScanCell w b rest bad) (x : Bool) : ScanCell (w.setCell ⟨b, 1, none⟩ (.bool x)) b rest x := by
  unfold ScanCell at *
  simp [World.setCell, Array.getElem?_modify, h]
theorem only_setCell {a w : World} {g : Nat} (h : a.grownBy w (some g)) (i : Nat) (u : Value) : a.grownBy (w.setCell ⟨g, i, none⟩ u) (some g) :=
  ⟨h.os, h.tape, h.output, by simpa [World.setCell] using h.size, fun i hi hne => (Below.heap_setCell w _ u i (by
    rintro rfl
    exact hne rfl)).trans (h.block i hi hne)⟩
set_option maxRecDepth 100000 in
set_option maxHeartbeats 400000 in
theorem scanNum_any (b : Nat) (rest : List UInt8) (bad : Bool) (w : World) (h63 : (rest.length : Int) ≤ 9223372036854775807) (hs : ScanCell w b rest bad) :
    Calls Try.prog 39 #[.pointer (some ⟨b, 0, none⟩)] w fun e w' => e = .returned (.int .i64 ((scanNum rest bad).1 : Int)) ∧ ScanCell w' b (scanNum rest bad).2.1 (scanNum rest bad).2.2 ∧ w.grownBy w' (some b) := by
  have c0 := hs.c0
  have c1 := hs.c1
  have f0 := hs.fr 0
  have f1 := hs.fr 1
  have HS := Lib.hid hs; clear hs
  have hle := readVarF_le rest
  by_cases hbad : bad = true ∨ (readVarF rest).2 = 0
  · have hfin : scanNum rest bad = (0, rest, true) := by rw [scanNum, if_pos hbad]
    rw [hfin]
    clear hfin
    cases hbb : bad with
    | true =>
      subst hbb
      clear hbad
      go_enter Try.func39, Try.ntmps39
      go_wp2_with fail
      refine (iReadVar_any rest _ h63).mono ?_; rintro e w1 ⟨rfl, hb1⟩
      have d0 := (hb1.cell (p := ⟨b, 0, none⟩) HS.out.lt).trans c0
      have d1 := (hb1.cell (p := ⟨b, 1, none⟩) HS.out.lt).trans c1
      have g1 := (hb1.frozen (p := ⟨b, 1, none⟩) HS.out.lt).trans f1
      have B1 := Lib.hid hb1; clear hb1
      go_wp2_with fail
      go_ret
      exact ⟨rfl, (HS.out.below B1.out).set1 true, only_setCell (only_of_below B1.out _) 1 _⟩
    | false =>
      subst hbb
      have hz : (readVarF rest).2 = 0 := by simpa using hbad
      have hz2 : (((readVarF rest).2 : Int) == 0) = true := by rw [hz]; rfl
      clear hbad hz
      go_enter Try.func39, Try.ntmps39
      go_wp2_with fail
      refine (iReadVar_any rest _ h63).mono ?_; rintro e w1 ⟨rfl, hb1⟩
      have d0 := (hb1.cell (p := ⟨b, 0, none⟩) HS.out.lt).trans c0
      have d1 := (hb1.cell (p := ⟨b, 1, none⟩) HS.out.lt).trans c1
      have g1 := (hb1.frozen (p := ⟨b, 1, none⟩) HS.out.lt).trans f1
      have B1 := Lib.hid hb1; clear hb1
      go_wp2_with fail
      go_ret
      exact ⟨rfl, (HS.out.below B1.out).set1 true, only_setCell (only_of_below B1.out _) 1 _⟩
  · have hfin : scanNum rest bad = ((readVarF rest).1, rest.drop (readVarF rest).2, false) := by rw [scanNum, if_neg hbad]
    rw [hfin]
    clear hfin
    obtain rfl : bad = false := by cases bad <;> simp_all
    have hz : ¬ (readVarF rest).2 = 0 := fun h => hbad (Or.inr h)
    have hz2 : (((readVarF rest).2 : Int) == 0) = false := by simp; omega
    clear hbad hz
    generalize hr : readVarF rest = r at *
    obtain ⟨q, k⟩ := r
    have HR := Lib.hid hr; clear hr
    simp only at hle hz2 ⊢
    obtain ⟨hl1, hl2, hl3⟩ := hle
    have hc1 : (0 : Int) ≤ (k : Int) ∧ (k : Int) ≤ (rest.length : Int) := by omega
    go_enter Try.func39, Try.ntmps39
    go_wp2_with fail
    refine (iReadVar_any rest _ h63).mono ?_; rintro e w1 ⟨rfl, hb1⟩
    rw [HR.out]
    have d0 := (hb1.cell (p := ⟨b, 0, none⟩) HS.out.lt).trans c0
    have d1 := (hb1.cell (p := ⟨b, 1, none⟩) HS.out.lt).trans c1
    have g0 := (hb1.frozen (p := ⟨b, 0, none⟩) HS.out.lt).trans f0
    have B1 := Lib.hid hb1; clear hb1
    go_wp2_with fail
    go_ret
    refine ⟨rfl, ?_, only_setCell (only_of_below B1.out _) 0 _⟩
    exact (HS.out.below B1.out).set0 (rest.drop k)

end Go.Proofs.Ytinacpjelephoaa
