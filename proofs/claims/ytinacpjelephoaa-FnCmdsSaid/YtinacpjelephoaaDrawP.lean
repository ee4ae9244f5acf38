/-
  What the reference draws out of a code, as plain functions of the cursor's place and number. Plain.
-/
import Derived.Test.YtinacpjelephoaaBase
namespace Go.Proofs.Ytinacpjelephoaa
open Go.RowKit
/-- a cursor's place and number -/
structure DSt where
  i : Nat
  h : Int
def nxtH (h : Int) : Int := wrap64 (wrap64 (h * 6364136223846793005) + 1442695040888963407)
def mixH (h : Int) : Nat := (bits .and .i64 (bits .xor .i64 (h / 8589934592) (h / 35184372088832)) 255).toNat
def byteF (xs : List UInt8) (s : DSt) : Nat × DSt :=
  match xs[s.i]? with
  | some b => ((bits .and .i64 ((mixH (nxtH s.h) : Int) + (b.toNat : Int)) 255).toNat, ⟨s.i + 1, nxtH s.h⟩)
  | none => (mixH (nxtH s.h), ⟨s.i, nxtH s.h⟩)
def belowF (xs : List UInt8) (n : Nat) (s : DSt) : Nat × DSt :=
  if n ≤ 256 then ((byteF xs s).1 % n, (byteF xs s).2) else
    let a := byteF xs s
    let b := byteF xs a.2
    let c := byteF xs b.2
    let d := byteF xs c.2
    ((a.1 * 16777216 + b.1 * 65536 + c.1 * 256 + d.1) % n, d.2)
def onceF (xs : List UInt8) (n : Nat) (s : DSt) : Bool × DSt := (decide ((belowF xs n s).1 = 0), (belowF xs n s).2)
def styleF (k b : Nat) : Nat := if k = 1 then b % 2 else if k = 2 then 97 + b % 4 else b
def textR (xs : List UInt8) (k : Nat) : Nat → List UInt8 → DSt → List UInt8 × DSt
  | 0, acc, s => (acc, s)
  | n + 1, acc, s => textR xs k n (acc ++ [UInt8.ofNat (styleF k (byteF xs s).1)]) (byteF xs s).2
def textF (xs : List UInt8) (most : Nat) (s : DSt) : List UInt8 × DSt :=
  let k := belowF xs 4 s
  let n := belowF xs (most + 1) k.2
  textR xs k.1 n.1 [] n.2
def pickList : List Int := [-1, 0, 127, 128, 255, 256, 16383, 16384, 65535, 65536, 562949953421311, 562949953421312, 999999999, 1000000000, -999999999, 9223372036854775807, -9223372036854775808]
def numF (xs : List UInt8) (s : DSt) : Int × DSt :=
  let k := belowF xs 8 s
  if k.1 = 0 then (pickList.getD (belowF xs 17 k.2).1 0, (belowF xs 17 k.2).2)
  else if k.1 = 1 then (((belowF xs 1000000000 k.2).1 : Int) * ((belowF xs 1000000000 (belowF xs 1000000000 k.2).2).1 : Int), (belowF xs 1000000000 (belowF xs 1000000000 k.2).2).2)
  else if k.1 = 2 then (-((belowF xs 100000 k.2).1 : Int), (belowF xs 100000 k.2).2)
  else (((belowF xs 70000 k.2).1 : Int), (belowF xs 70000 k.2).2)
def spoilB (c : UInt8) (b : Nat) : UInt8 := UInt8.ofNat (bits .xor .i64 ((c.toNat : Nat) : Int) (1 + (b : Int)) % 256).toNat
def spoilF (xs : List UInt8) (s : DSt) (l : List UInt8) : List UInt8 × DSt :=
  if l = [] then textF xs 3 s else
    let k := belowF xs l.length s
    let m := belowF xs 4 k.2
    if m.1 = 0 then (l.take k.1 ++ l.drop (k.1 + 1), m.2)
    else if m.1 = 1 then (l.take k.1 ++ [UInt8.ofNat (byteF xs m.2).1] ++ l.drop k.1, (byteF xs m.2).2)
    else if m.1 = 2 then (l.take k.1, m.2)
    else (l.take k.1 ++ [spoilB (l.getD k.1 0) (belowF xs 255 m.2).1] ++ l.drop (k.1 + 1), (belowF xs 255 m.2).2)
def newH (xs : List UInt8) : Nat → Int
  | 0 => 10101 + (xs.length : Int)
  | k + 1 => bits .and .i64 (wrap64 (wrap64 (wrap64 (newH xs k * 131) + (((xs.getD k 0).toNat : Nat) : Int)) + 7)) 1073741823
theorem newH_succ (xs : List UInt8) (k : Nat) : newH xs (k + 1) = bits .and .i64 (wrap64 (wrap64 (wrap64 (newH xs k * 131) + (((xs.getD k 0).toNat : Nat) : Int)) + 7)) 1073741823 := rfl
def startF (xs : List UInt8) : DSt := ⟨0, newH xs (min xs.length 4000)⟩
theorem bits_le (X : Int) : ∃ m : Nat, m ≤ 255 ∧ bits .and .i64 X 255 = (m : Int) := by
  refine ⟨(BitVec.ofInt 64 X).toNat &&& 255, Nat.and_le_right, ?_⟩
  show IntKind.i64.wrap ((BitVec.ofInt 64 X &&& BitVec.ofInt 64 (255 : Int)).toNat : Int) = _
  have e2 : (BitVec.ofInt 64 (255 : Int)).toNat = 255 := by decide
  have h : (BitVec.ofInt 64 X).toNat &&& 255 ≤ 255 := Nat.and_le_right
  rw [BitVec.toNat_and, e2, IntKind.wrap_i64]
  omega
theorem mod256 (X : Int) : ∃ q : Nat, q ≤ 255 ∧ X % 256 = (q : Int) := ⟨(X % 256).toNat, by omega, by omega⟩
theorem mixH_le (h : Int) : mixH h ≤ 255 ∧ bits .and .i64 (bits .xor .i64 (h / 8589934592) (h / 35184372088832)) 255 = (mixH h : Int) := by
  obtain ⟨m, h1, h2⟩ := bits_le (bits .xor .i64 (h / 8589934592) (h / 35184372088832))
  unfold mixH
  rw [h2]
  exact ⟨by simpa using h1, by simp⟩
theorem byteF_le (xs : List UInt8) (s : DSt) : (byteF xs s).1 ≤ 255 := by
  unfold byteF
  split
  · rename_i b _
    obtain ⟨m, h1, h2⟩ := bits_le ((mixH (nxtH s.h) : Int) + (b.toNat : Int))
    rw [h2]
    simpa using h1
  · exact (mixH_le _).1
theorem byteF_yes {xs : List UInt8} {s : DSt} (hi : s.i < xs.length) : bits .and .i64 ((mixH (nxtH s.h) : Int) + (xs[s.i].toNat : Int)) 255 = ((byteF xs s).1 : Int) ∧ (byteF xs s).2 = ⟨s.i + 1, nxtH s.h⟩ := by
  unfold byteF
  rw [List.getElem?_eq_getElem hi]
  obtain ⟨m, h1, h2⟩ := bits_le ((mixH (nxtH s.h) : Int) + (xs[s.i].toNat : Int))
  simp only [h2]
  simp
theorem byteF_no {xs : List UInt8} {s : DSt} (hi : ¬ s.i < xs.length) : byteF xs s = (mixH (nxtH s.h), ⟨s.i, nxtH s.h⟩) := by
  unfold byteF
  rw [List.getElem?_eq_none (by omega)]
theorem byteF_i {xs : List UInt8} {s : DSt} (hi : s.i ≤ xs.length) : (byteF xs s).2.i ≤ xs.length := by
  unfold byteF
  split
  · rename_i b hb
    have := (List.getElem?_eq_some_iff.1 hb).1
    simp only
    omega
  · exact hi
theorem belowF_lt (xs : List UInt8) (n : Nat) (s : DSt) (hn : 1 ≤ n) : (belowF xs n s).1 < n := by
  unfold belowF
  split
  · exact Nat.mod_lt _ hn
  · exact Nat.mod_lt _ hn
theorem styleF_le {k b : Nat} (h : b ≤ 255) : styleF k b ≤ 255 := by
  unfold styleF
  split
  · omega
  · split <;> omega
theorem textR_len (xs : List UInt8) (k : Nat) : ∀ (n : Nat) (acc : List UInt8) (s : DSt), (textR xs k n acc s).1.length = acc.length + n
  | 0, _, _ => rfl
  | n + 1, acc, s => by
    rw [textR, textR_len xs k n, List.length_append]
    simp only [List.length_cons, List.length_nil]
    omega
theorem textF_len (xs : List UInt8) (most : Nat) (s : DSt) : (textF xs most s).1.length ≤ most := by
  unfold textF
  have := belowF_lt xs (most + 1) (belowF xs 4 s).2 (by omega)
  simp only [textR_len, List.length_nil]
  omega
end Go.Proofs.Ytinacpjelephoaa
