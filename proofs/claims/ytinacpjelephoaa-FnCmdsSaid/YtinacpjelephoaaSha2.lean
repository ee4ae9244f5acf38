/-
  One block of SHA-256 in the program as the plain function blkV. Conditions: a block of 64 bytes, words below 2^32, the table of constants lies at its place.
-/
import Derived.Test.YtinacpjelephoaaSha1
import Derived.Test.YtinacpjelephoaaArr
namespace Go.Proofs.Ytinacpjelephoaa
open Go.RowKit

def u32v (n : Nat) : Value := .int .u32 (n : Int)



theorem xor_ones (x : Nat) (hx : x < 4294967296) : 4294967295 ^^^ x = 4294967295 - x := by
  apply Nat.eq_of_testBit_eq
  intro i
  rw [Nat.testBit_xor, show 4294967295 - x = 2 ^ 32 - (x + 1) by omega, Nat.testBit_two_pow_sub_succ (by omega), show (4294967295 : Nat) = 2 ^ 32 - 1 from rfl, Nat.testBit_two_pow_sub_one]
  by_cases hi : i < 32
  · simp [hi]
  · have : x.testBit i = false := Nat.testBit_lt_two_pow (Nat.lt_of_lt_of_le hx (show 2 ^ 32 ≤ 2 ^ i from Nat.pow_le_pow_right (by omega) (by omega)))
    simp [hi, this]
theorem u32_not (x : Nat) (hx : x < 4294967296) : bits .xor .u32 IntKind.u32.max (x : Int) = ((4294967295 - x : Nat) : Int) := by
  rw [show IntKind.u32.max = ((4294967295 : Nat) : Int) from rfl, u32_xor_nat _ _ (by omega) hx, xor_ones x hx]





def schA (b : List UInt8) (k : Nat) : List Nat := sch b k ++ List.replicate (64 - k) 0
theorem schA_length (b : List UInt8) (k : Nat) (hk : k ≤ 64) : (schA b k).length = 64 := by rw [schA, List.length_append, sch_length, List.length_replicate]; omega
theorem schA_set (b : List UInt8) (k x : Nat) (hk : k < 64) (hx : x = schW b k (sch b k)) : ((schA b k).map u32v).set k (.int .u32 (x : Int)) = (schA b (k + 1)).map u32v := by
  rw [schA, show 64 - k = (64 - (k + 1)) + 1 by omega, List.replicate_succ, List.map_append, List.set_append_right _ _ (by rw [List.length_map, sch_length]; exact Nat.le_refl _), List.length_map, sch_length, Nat.sub_self, List.map_cons, List.set_cons_zero, schA, sch, List.append_assoc, List.map_append, hx]
  rfl
theorem schA_get (b : List UInt8) (k j : Nat) (hj : j < k) (hk : k ≤ 64) : ((schA b k).map u32v)[j]? = some (.int .u32 (((sch b k).getD j 0 : Nat) : Int)) := by
  have hl : j < (sch b k).length := by rw [sch_length]; exact hj
  rw [schA, List.map_append, List.getElem?_append_left (by rw [List.length_map]; exact hl), List.getElem?_map, List.getElem?_eq_getElem hl]
  simp only [Option.map_some, List.getD_eq_getElem?_getD, List.getElem?_eq_getElem hl, Option.getD_some, u32v]
theorem blk_newAt (w : World) (cs cs' : Array Value) (e g : Nat) (hg : g = w.heap.size) (hc : cs = cs') : Blk (w.alloc (.cells cs e)) g e cs' := by subst hg hc; exact blk_new _ _ _



theorem one8 (h : V8) : ∀ u ∈ h.toL.map u32v, u.oneCell' = true := by
  intro u hu
  obtain ⟨n, _, rfl⟩ := List.mem_map.1 hu
  rfl
def addJ (h v : V8) (j : Nat) : List Nat := (h.add v).toL.take j ++ h.toL.drop j
theorem addJ_set (h v : V8) (j : Nat) (hj : j < 8) : ((addJ h v j).map u32v).set j (.int .u32 (((h.toL.getD j 0 + v.toL.getD j 0) % 4294967296 : Nat) : Int)) = (addJ h v (j + 1)).map u32v := by
  have : j = 0 ∨ j = 1 ∨ j = 2 ∨ j = 3 ∨ j = 4 ∨ j = 5 ∨ j = 6 ∨ j = 7 := by omega
  rcases this with rfl | rfl | rfl | rfl | rfl | rfl | rfl | rfl <;> rfl
theorem addJ_get (h v : V8) (j : Nat) (hj : j < 8) : ((addJ h v j).map u32v)[j]? = some (.int .u32 ((h.toL.getD j 0 : Nat) : Int)) := by
  have : j = 0 ∨ j = 1 ∨ j = 2 ∨ j = 3 ∨ j = 4 ∨ j = 5 ∨ j = 6 ∨ j = 7 := by omega
  rcases this with rfl | rfl | rfl | rfl | rfl | rfl | rfl | rfl <;> rfl
theorem toL_get (v : V8) (j : Nat) (hj : j < 8) : (v.toL.map u32v)[j]? = some (.int .u32 ((v.toL.getD j 0 : Nat) : Int)) := by
  have : j = 0 ∨ j = 1 ∨ j = 2 ∨ j = 3 ∨ j = 4 ∨ j = 5 ∨ j = 6 ∨ j = 7 := by omega
  rcases this with rfl | rfl | rfl | rfl | rfl | rfl | rfl | rfl <;> rfl
theorem toL_lt {v : V8} (hv : v.ok) (j : Nat) : v.toL.getD j 0 < 4294967296 := by
  refine getD_lt ?_ j
  obtain ⟨a, b, c, d, e, f, g, h⟩ := hv
  intro x hx
  simp only [V8.toL, List.mem_cons, List.not_mem_nil, or_false] at hx
  omega
theorem map_get0 (l : List Nat) (j : Nat) (hj : j < l.length) : ∃ v : Nat, (l.map u32v)[j]? = some (.int .u32 (v : Int)) :=
  ⟨l[j], by rw [List.getElem?_map, List.getElem?_eq_getElem hj]; rfl⟩







































































































































































































































































end Go.Proofs.Ytinacpjelephoaa
