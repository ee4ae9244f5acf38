/-
  SHA-256 as plain functions on numbers below 2^32 and lists of bytes. No condition.
-/
import Derived.Test.YtinacpjelephoaaNumC
namespace Go.Proofs.Ytinacpjelephoaa
open Go.RowKit

def rr (x r : Nat) : Nat := x >>> r ||| (x <<< (32 - r)) % 4294967296
def sg0 (x : Nat) : Nat := rr x 7 ^^^ rr x 18 ^^^ x >>> 3
def sg1 (x : Nat) : Nat := rr x 17 ^^^ rr x 19 ^^^ x >>> 10
def bg1 (e : Nat) : Nat := rr e 6 ^^^ rr e 11 ^^^ rr e 25
def bg0 (a : Nat) : Nat := rr a 2 ^^^ rr a 13 ^^^ rr a 22
def chf (e f g : Nat) : Nat := (e &&& f) ^^^ ((4294967295 - e) &&& g)
def mjf (a b c : Nat) : Nat := (a &&& b) ^^^ (a &&& c) ^^^ (b &&& c)
theorem rr_lt {x : Nat} (r : Nat) (h : x < 4294967296) : rr x r < 4294967296 :=
  Nat.or_lt_two_pow (n := 32) (Nat.lt_of_le_of_lt (by rw [Nat.shiftRight_eq_div_pow]; exact Nat.div_le_self _ _) h) (Nat.mod_lt _ (by omega))
theorem xor_lt {a b : Nat} (h : a < 4294967296) (k : b < 4294967296) : a ^^^ b < 4294967296 := Nat.xor_lt_two_pow (n := 32) h k
theorem and_ltL {a b : Nat} (h : a < 4294967296) : a &&& b < 4294967296 := Nat.lt_of_le_of_lt Nat.and_le_left h
theorem shr_lt {a : Nat} (k : Nat) (h : a < 4294967296) : a >>> k < 4294967296 := Nat.lt_of_le_of_lt (by rw [Nat.shiftRight_eq_div_pow]; exact Nat.div_le_self _ _) h
theorem sg0_lt {x : Nat} (h : x < 4294967296) : sg0 x < 4294967296 := xor_lt (xor_lt (rr_lt _ h) (rr_lt _ h)) (shr_lt _ h)
theorem sg1_lt {x : Nat} (h : x < 4294967296) : sg1 x < 4294967296 := xor_lt (xor_lt (rr_lt _ h) (rr_lt _ h)) (shr_lt _ h)
theorem bg0_lt {x : Nat} (h : x < 4294967296) : bg0 x < 4294967296 := xor_lt (xor_lt (rr_lt _ h) (rr_lt _ h)) (rr_lt _ h)
theorem bg1_lt {x : Nat} (h : x < 4294967296) : bg1 x < 4294967296 := xor_lt (xor_lt (rr_lt _ h) (rr_lt _ h)) (rr_lt _ h)
theorem chf_lt {e f g : Nat} (h : e < 4294967296) : chf e f g < 4294967296 := xor_lt (and_ltL h) (and_ltL (by omega))
theorem mjf_lt {a b c : Nat} (h : a < 4294967296) (k : b < 4294967296) : mjf a b c < 4294967296 := xor_lt (xor_lt (and_ltL h) (and_ltL h)) (and_ltL k)
def be4 (b : List UInt8) (i : Nat) : Nat := (b.getD (4 * i) 0).toNat <<< 24 ||| (b.getD (4 * i + 1) 0).toNat <<< 16 ||| (b.getD (4 * i + 2) 0).toNat <<< 8 ||| (b.getD (4 * i + 3) 0).toNat
theorem byte_shl (b : UInt8) (k : Nat) (h : k ≤ 24) : b.toNat <<< k < 4294967296 := by
  have hb := b.toNat_lt
  rw [Nat.shiftLeft_eq]
  have : 2 ^ k ≤ 2 ^ 24 := Nat.pow_le_pow_right (by omega) h
  have h2 : b.toNat * 2 ^ k ≤ 255 * 2 ^ 24 := Nat.mul_le_mul (by omega) this
  omega
theorem be4_lt (b : List UInt8) (i : Nat) : be4 b i < 4294967296 :=
  Nat.or_lt_two_pow (n := 32) (Nat.or_lt_two_pow (n := 32) (Nat.or_lt_two_pow (n := 32) (byte_shl _ _ (by omega)) (byte_shl _ _ (by omega))) (byte_shl _ _ (by omega))) (by have := (b.getD (4 * i + 3) 0).toNat_lt; omega)
def schW (b : List UInt8) (k : Nat) (l : List Nat) : Nat :=
  if k < 16 then be4 b k else (l.getD (k - 16) 0 + sg0 (l.getD (k - 15) 0) + l.getD (k - 7) 0 + sg1 (l.getD (k - 2) 0)) % 4294967296
theorem schW_lt (b : List UInt8) (k : Nat) (l : List Nat) : schW b k l < 4294967296 := by
  unfold schW
  split
  · exact be4_lt _ _
  · exact Nat.mod_lt _ (by omega)
def sch (b : List UInt8) : Nat → List Nat
  | 0 => []
  | k + 1 => sch b k ++ [schW b k (sch b k)]
theorem sch_length (b : List UInt8) : ∀ k, (sch b k).length = k
  | 0 => rfl
  | k + 1 => by rw [sch, List.length_append, sch_length b k]; rfl
theorem sch_lt (b : List UInt8) : ∀ k, ∀ x ∈ sch b k, x < 4294967296
  | 0, x, h => by cases h
  | k + 1, x, h => by
    rw [sch, List.mem_append] at h
    rcases h with h | h
    · exact sch_lt b k x h
    · rw [List.mem_singleton] at h; rw [h]; exact schW_lt _ _ _
theorem getD_lt {l : List Nat} (h : ∀ x ∈ l, x < 4294967296) (i : Nat) : l.getD i 0 < 4294967296 := by
  rw [List.getD_eq_getElem?_getD]
  cases hi : l[i]? with
  | none => simp
  | some v => exact h v (List.mem_of_getElem? hi)
structure V8 where
  a : Nat
  b : Nat
  c : Nat
  d : Nat
  e : Nat
  f : Nat
  g : Nat
  h : Nat
def V8.ok (v : V8) : Prop := v.a < 4294967296 ∧ v.b < 4294967296 ∧ v.c < 4294967296 ∧ v.d < 4294967296 ∧ v.e < 4294967296 ∧ v.f < 4294967296 ∧ v.g < 4294967296 ∧ v.h < 4294967296
def V8.toL (v : V8) : List Nat := [v.a, v.b, v.c, v.d, v.e, v.f, v.g, v.h]
def rT (v : V8) (k w : Nat) : Nat := v.h + bg1 v.e + chf v.e v.f v.g + k + w
def rU (v : V8) : Nat := bg0 v.a + mjf v.a v.b v.c
def rnd (v : V8) (k w : Nat) : V8 := ⟨(rT v k w + rU v) % 4294967296, v.a, v.b, v.c, (v.d + rT v k w) % 4294967296, v.e, v.f, v.g⟩
theorem rnd_ok {v : V8} (h : v.ok) (k w : Nat) : (rnd v k w).ok :=
  ⟨Nat.mod_lt _ (by omega), h.1, h.2.1, h.2.2.1, Nat.mod_lt _ (by omega), h.2.2.2.2.1, h.2.2.2.2.2.1, h.2.2.2.2.2.2.1⟩
def rnds (ks ws : List Nat) (v : V8) : Nat → V8
  | 0 => v
  | i + 1 => rnd (rnds ks ws v i) (ks.getD i 0) (ws.getD i 0)
theorem rnds_ok (ks ws : List Nat) {v : V8} (h : v.ok) : ∀ i, (rnds ks ws v i).ok
  | 0 => h
  | i + 1 => rnd_ok (rnds_ok ks ws h i) _ _
def V8.add (h v : V8) : V8 := ⟨(h.a + v.a) % 4294967296, (h.b + v.b) % 4294967296, (h.c + v.c) % 4294967296, (h.d + v.d) % 4294967296, (h.e + v.e) % 4294967296, (h.f + v.f) % 4294967296, (h.g + v.g) % 4294967296, (h.h + v.h) % 4294967296⟩
theorem V8.add_ok (h v : V8) : (h.add v).ok :=
  ⟨Nat.mod_lt _ (by omega), Nat.mod_lt _ (by omega), Nat.mod_lt _ (by omega), Nat.mod_lt _ (by omega), Nat.mod_lt _ (by omega), Nat.mod_lt _ (by omega), Nat.mod_lt _ (by omega), Nat.mod_lt _ (by omega)⟩
def shaK : List Nat := [
  0x428a2f98, 0x71374491, 0xb5c0fbcf, 0xe9b5dba5, 0x3956c25b, 0x59f111f1, 0x923f82a4, 0xab1c5ed5,
  0xd807aa98, 0x12835b01, 0x243185be, 0x550c7dc3, 0x72be5d74, 0x80deb1fe, 0x9bdc06a7, 0xc19bf174,
  0xe49b69c1, 0xefbe4786, 0x0fc19dc6, 0x240ca1cc, 0x2de92c6f, 0x4a7484aa, 0x5cb0a9dc, 0x76f988da,
  0x983e5152, 0xa831c66d, 0xb00327c8, 0xbf597fc7, 0xc6e00bf3, 0xd5a79147, 0x06ca6351, 0x14292967,
  0x27b70a85, 0x2e1b2138, 0x4d2c6dfc, 0x53380d13, 0x650a7354, 0x766a0abb, 0x81c2c92e, 0x92722c85,
  0xa2bfe8a1, 0xa81a664b, 0xc24b8b70, 0xc76c51a3, 0xd192e819, 0xd6990624, 0xf40e3585, 0x106aa070,
  0x19a4c116, 0x1e376c08, 0x2748774c, 0x34b0bcb5, 0x391c0cb3, 0x4ed8aa4a, 0x5b9cca4f, 0x682e6ff3,
  0x748f82ee, 0x78a5636f, 0x84c87814, 0x8cc70208, 0x90befffa, 0xa4506ceb, 0xbef9a3f7, 0xc67178f2]
theorem shaK_length : shaK.length = 64 := by decide
theorem shaK_lt : ∀ x ∈ shaK, x < 4294967296 := by decide
def blkV (h : V8) (b : List UInt8) : V8 := h.add (rnds shaK (sch b 64) h 64)
theorem blkV_ok (h : V8) (b : List UInt8) : (blkV h b).ok := V8.add_ok _ _
def shaH : V8 := ⟨0x6a09e667, 0xbb67ae85, 0x3c6ef372, 0xa54ff53a, 0x510e527f, 0x9b05688c, 0x1f83d9ab, 0x5be0cd19⟩
theorem shaH_ok : shaH.ok := by unfold V8.ok shaH; decide
def shaN (t : List UInt8) : Nat → V8
  | 0 => shaH
  | k + 1 => blkV (shaN t k) ((t.drop (64 * k)).take 64)
theorem shaN_ok (t : List UInt8) : ∀ k, (shaN t k).ok
  | 0 => shaH_ok
  | _ + 1 => blkV_ok _ _
def shaZ (n : Nat) : Nat := (64 - (n + 9) % 64) % 64
def padL (l : List UInt8) : List UInt8 := l ++ (128 :: List.replicate (shaZ l.length) 0 ++ fixedL 8 (8 * l.length))
theorem padL_length (l : List UInt8) : (padL l).length = l.length + shaZ l.length + 9 := by
  simp [padL, fixedL_length]; omega
theorem padL_mod (l : List UInt8) : (padL l).length % 64 = 0 := by rw [padL_length, shaZ]; omega
def shaV (l : List UInt8) : V8 := shaN (padL l) ((padL l).length / 64)
def outL (l : List Nat) : List UInt8 := l.flatMap (fixedL 4)
def shaL (l : List UInt8) : List UInt8 := outL (shaV l).toL
theorem outL_length : ∀ l : List Nat, (outL l).length = 4 * l.length
  | [] => rfl
  | x :: l => by rw [outL, List.flatMap_cons, List.length_append, fixedL_length]; have := outL_length l; rw [outL] at this; rw [this]; simp; omega
theorem shaL_length (l : List UInt8) : (shaL l).length = 32 := by rw [shaL, outL_length]; rfl
/-! ### bits of u32 -/
theorem ofInt_u32 (a : Nat) (ha : a < 4294967296) : (BitVec.ofInt 32 (a : Int)).toNat = a := by
  rw [BitVec.ofInt_natCast, BitVec.toNat_ofNat]; exact Nat.mod_eq_of_lt (by omega)
theorem u32_and_nat (a b : Nat) (ha : a < 4294967296) (hb : b < 4294967296) : bits .and .u32 (a : Int) (b : Int) = ((a &&& b : Nat) : Int) := by
  have hx : a &&& b < 2 ^ 32 := Nat.and_lt_two_pow _ (by omega)
  show IntKind.u32.wrap ((BitVec.ofInt 32 (a : Int) &&& BitVec.ofInt 32 (b : Int)).toNat : Int) = _
  rw [BitVec.toNat_and, ofInt_u32 a ha, ofInt_u32 b hb, IntKind.wrap_u32]
  omega
theorem u32_or_nat (a b : Nat) (ha : a < 4294967296) (hb : b < 4294967296) : bits .or .u32 (a : Int) (b : Int) = ((a ||| b : Nat) : Int) := by
  have hx : a ||| b < 2 ^ 32 := Nat.or_lt_two_pow (by omega) (by omega)
  show IntKind.u32.wrap ((BitVec.ofInt 32 (a : Int) ||| BitVec.ofInt 32 (b : Int)).toNat : Int) = _
  rw [BitVec.toNat_or, ofInt_u32 a ha, ofInt_u32 b hb, IntKind.wrap_u32]
  omega
theorem u32_xor_nat (a b : Nat) (ha : a < 4294967296) (hb : b < 4294967296) : bits .xor .u32 (a : Int) (b : Int) = ((a ^^^ b : Nat) : Int) := by
  have hx : a ^^^ b < 2 ^ 32 := Nat.xor_lt_two_pow (by omega) (by omega)
  show IntKind.u32.wrap ((BitVec.ofInt 32 (a : Int) ^^^ BitVec.ofInt 32 (b : Int)).toNat : Int) = _
  rw [BitVec.toNat_xor, ofInt_u32 a ha, ofInt_u32 b hb, IntKind.wrap_u32]
  omega
end Go.Proofs.Ytinacpjelephoaa
