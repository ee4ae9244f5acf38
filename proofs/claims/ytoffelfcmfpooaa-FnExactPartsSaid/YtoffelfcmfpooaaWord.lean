/-
  Words: impl.isWord, impl.wordIf, spec.l4Word, spec.l4May. Conditions: a bound on the length.
-/
import Derived.Test.YtoffelfcmfpooaaNum
namespace Go.Proofs.Ytoffelfcmfpooaa
open Go.RowKit
def lcB (b : UInt8) : Bool := decide (97 ≤ (b.toNat : Int) ∧ (b.toNat : Int) ≤ 122)
def wordB (l : List UInt8) : Bool := inB 1 8 (l.length : Int) && l.all lcB
def wordIfB (l : List UInt8) (b : Bool) : Bool := if b = true then wordB l else decide (l = [])
theorem all_take_succ {l : List UInt8} {j : Nat} (h : (l.take j).all lcB = true) (hj : j < l.length) (hb : lcB l[j] = true) : (l.take (j + 1)).all lcB = true := by
  rw [List.take_succ_eq_append_getElem hj, List.all_append, h, Bool.true_and]
  simpa using hb
theorem wordB_no {l : List UInt8} {j : Nat} (hj : j < l.length) (hb : lcB l[j] = false) : wordB l = false := by
  have : l.all lcB = false := by
    rw [List.all_eq_false]
    exact ⟨l[j], List.getElem_mem hj, by simpa using hb⟩
  rw [wordB, this, Bool.and_false]
theorem wordB_end {l : List UInt8} (h : (l.take l.length).all lcB = true) : wordB l = inB 1 8 (l.length : Int) := by
  rw [List.take_length] at h
  rw [wordB, h, Bool.and_true]
theorem lcB_lo {b : UInt8} (h : (b.toNat : Int) < 97) : lcB b = false := by simp only [lcB, decide_eq_false_iff_not]; omega
theorem lcB_hi {b : UInt8} (h : 122 < (b.toNat : Int)) : lcB b = false := by simp only [lcB, decide_eq_false_iff_not]; omega
theorem lcB_yes {b : UInt8} (h1 : ¬ (b.toNat : Int) < 97) (h2 : ¬ 122 < (b.toNat : Int)) : lcB b = true := by simp only [lcB, decide_eq_true_eq]; omega

set_option maxRecDepth 100000 in
set_option maxHeartbeats 1000000 in
theorem isWord_any (l : List UInt8) (w : World) (hl : l.length ≤ 4611686018427387904) :
    Calls Try.prog 125 #[.string (bs l)] w fun e w' => e = .returned (.bool (wordB l)) ∧ w = w' := by
  go_enter Try.func125, Try.ntmps125
  go_wp2
  go_loop [3] (fun ii => ∃ j : Nat, j ≤ l.length ∧ ii = .int .i64 (j : Int) ∧ (l.take j).all lcB = true) (fun ii => l.length - (intOf ii).toNat)
  case atStart => exact ⟨0, Nat.zero_le _, rfl, rfl⟩
  case round =>
    obtain ⟨j, hj, rfl, hall⟩ := hrel
    by_cases hlt : j < l.length
    · have hst := fun h => all_take_succ hall hlt h
      have hno := fun h => wordB_no (l := l) hlt h
      have HST := Lib.hid hst; clear hst
      have HNO := Lib.hid hno; clear hno hall
      by_cases h1 : ((l[j]'hlt).toNat : Int) < 97
      · have HR := Lib.hid (HNO.out (lcB_lo h1))
        go_wp2
        go_ret
        exact ⟨ret_eq (by rw [HR.out]; rfl), rfl⟩
      · by_cases h2 : 122 < ((l[j]'hlt).toNat : Int)
        · have HR := Lib.hid (HNO.out (lcB_hi h2))
          go_wp2
          go_ret
          exact ⟨ret_eq (by rw [HR.out]; rfl), rfl⟩
        · have HS := Lib.hid (HST.out (lcB_yes h1 h2))
          go_wp2
          exact ⟨⟨j + 1, by omega, by go_num, HS.out⟩, by simp only [intOf]; omega⟩
    · have hjn : j = l.length := by omega
      subst hjn
      have HR := Lib.hid (wordB_end hall)
      clear hall
      go_wp2_with fail
      refine (within_any _ _ _ _).mono ?_; rintro e w' ⟨rfl, rfl⟩
      go_wp2
      go_ret
      exact ⟨ret_eq (by rw [HR.out]; rfl), rfl⟩

set_option maxRecDepth 100000 in
set_option maxHeartbeats 1000000 in
theorem wordIf_any (l : List UInt8) (b : Bool) (w : World) (hl : l.length ≤ 4611686018427387904) :
    Calls Try.prog 109 #[.string (bs l), .bool b] w fun e w' => e = .returned (.bool (wordIfB l b)) ∧ w = w' := by
  cases b with
  | true =>
    have HR := Lib.hid (show wordIfB l true = wordB l from rfl)
    go_enter Try.func109, Try.ntmps109
    go_wp2_with fail
    refine (isWord_any l _ hl).mono ?_; rintro e w' ⟨rfl, rfl⟩
    go_wp2
    go_ret
    exact ⟨ret_eq (by rw [HR.out]; rfl), rfl⟩
  | false =>
    have HR := Lib.hid (show wordIfB l false = decide (l = []) from rfl)
    cases l with
    | nil =>
      go_enter Try.func109, Try.ntmps109
      go_wp2
      go_ret
      exact ⟨ret_eq (by rw [HR.out]; rfl), rfl⟩
    | cons c l =>
      go_enter Try.func109, Try.ntmps109
      go_wp2
      go_ret
      exact ⟨ret_eq (by rw [HR.out]; rfl), rfl⟩

set_option maxRecDepth 100000 in
set_option maxHeartbeats 1000000 in
theorem l4Word_any (l : List UInt8) (w : World) (hl : l.length ≤ 4611686018427387904) :
    Calls Try.prog 107 #[.string (bs l)] w fun e w' => e = .returned (.bool (wordB l)) ∧ w = w' := by
  by_cases h0 : 1 ≤ (l.length : Int) ∧ (l.length : Int) ≤ 8
  · have H0 := Lib.hid h0; clear h0
    go_enter Try.func107, Try.ntmps107
    go_wp2_with fail
    refine (l1In_yes _ _ _ _ H0.out).mono ?_; rintro e w' ⟨rfl, rfl⟩
    go_wp2
    go_loop [3] (fun ii => ∃ j : Nat, j ≤ l.length ∧ ii = .int .i64 (j : Int) ∧ (l.take j).all lcB = true) (fun ii => l.length - (intOf ii).toNat)
    case atStart => exact ⟨0, Nat.zero_le _, rfl, rfl⟩
    case round =>
      obtain ⟨j, hj, rfl, hall⟩ := hrel
      by_cases hlt : j < l.length
      · have hst := fun h => all_take_succ hall hlt h
        have hno := fun h => wordB_no (l := l) hlt h
        have HST := Lib.hid hst; clear hst
        have HNO := Lib.hid hno; clear hno hall
        by_cases h1 : ((l[j]'hlt).toNat : Int) < 97
        · have HR := Lib.hid (HNO.out (lcB_lo h1))
          go_wp2
          go_ret
          exact ⟨ret_eq (by rw [HR.out]; rfl), rfl⟩
        · by_cases h2 : 122 < ((l[j]'hlt).toNat : Int)
          · have HR := Lib.hid (HNO.out (lcB_hi h2))
            go_wp2
            go_ret
            exact ⟨ret_eq (by rw [HR.out]; rfl), rfl⟩
          · have HS := Lib.hid (HST.out (lcB_yes h1 h2))
            go_wp2
            exact ⟨⟨j + 1, by omega, by go_num, HS.out⟩, by simp only [intOf]; omega⟩
      · have hjn : j = l.length := by omega
        subst hjn
        have HR := Lib.hid (show wordB l = true by rw [wordB_end hall, inB_true H0.out.1 H0.out.2])
        clear hall
        go_wp2
        go_ret
        exact ⟨ret_eq (by rw [HR.out]; rfl), rfl⟩
  · have HR := Lib.hid (show wordB l = false by rw [wordB, inB_false h0, Bool.false_and])
    have H0 := Lib.hid h0; clear h0
    go_enter Try.func107, Try.ntmps107
    go_wp2_with fail
    refine (l1In_no _ _ _ _ H0.out).mono ?_; rintro e w' ⟨rfl, rfl⟩
    go_wp2
    go_ret
    exact ⟨ret_eq (by rw [HR.out]; rfl), rfl⟩

set_option maxRecDepth 100000 in
set_option maxHeartbeats 1000000 in
theorem l4May_any (l : List UInt8) (b : Bool) (w : World) (hl : l.length ≤ 4611686018427387904) :
    Calls Try.prog 87 #[.string (bs l), .bool b] w fun e w' => e = .returned (.bool (wordIfB l b)) ∧ w = w' := by
  cases b with
  | true =>
    have HR := Lib.hid (show wordIfB l true = wordB l from rfl)
    go_enter Try.func87, Try.ntmps87
    go_wp2_with fail
    refine (l4Word_any l _ hl).mono ?_; rintro e w' ⟨rfl, rfl⟩
    go_wp2
    go_ret
    exact ⟨ret_eq (by rw [HR.out]; rfl), rfl⟩
  | false =>
    have HR := Lib.hid (show wordIfB l false = decide (l = []) from rfl)
    cases l with
    | nil =>
      go_enter Try.func87, Try.ntmps87
      go_wp2
      go_ret
      exact ⟨ret_eq (by rw [HR.out]; rfl), rfl⟩
    | cons c l =>
      go_enter Try.func87, Try.ntmps87
      go_wp2
      go_ret
      exact ⟨ret_eq (by rw [HR.out]; rfl), rfl⟩

attribute [irreducible] wordIfB wordB
end Go.Proofs.Ytoffelfcmfpooaa
