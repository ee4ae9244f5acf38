/-
  The small functions of SHA-256 (rotations, four bytes as a word), program and reference. Conditions: words are below 2^32.
-/
import Derived.Test.YtinacpjelephoaaShaP
namespace Go.Proofs.Ytinacpjelephoaa
open Go.RowKit

theorem rrA2 (x : Nat) (hx : x < 4294967296) : (x : Int) / (4 : Int) = ((x >>> 2 : Nat) : Int) ∧ (x : Int) * (1073741824 : Int) = ((x <<< (32 - 2) : Nat) : Int) ∧ x >>> 2 < 4294967296 ∧ x <<< (32 - 2) < 9223372036854775808 :=
  ⟨by rw [Nat.shiftRight_eq_div_pow]; omega, by rw [Nat.shiftLeft_eq]; omega, shr_lt _ hx, by rw [Nat.shiftLeft_eq]; omega⟩
















set_option maxRecDepth 100000 in
set_option maxHeartbeats 400000 in
theorem l3r2 (x : Nat) (w : World) (hx : x < 4294967296) :
    Calls Try.prog 64 #[.int .i64 x, .int .u64 2] w fun e w' => e = .returned (.int .i64 ((rr x 2 : Nat) : Int)) ∧ w = w' := by
  have hz : bits .and .i64 (bits .or .i64 ((x : Int) / (4 : Int)) ((x : Int) * (1073741824 : Int))) (4294967295 : Int) = ((rr x 2 : Nat) : Int) := by
    obtain ⟨e1, e2, l1, l2⟩ := rrA2 x hx
    have l3 : x >>> 2 ||| x <<< (32 - 2) < 2 ^ 63 := Nat.or_lt_two_pow (by omega) (by omega)
    rw [e1, e2, i64_or_nat _ _ (by omega) (by omega), show (4294967295 : Int) = ((4294967295 : Nat) : Int) from rfl, i64_and_nat _ _ (by omega) (by omega)]
    congr 1
    rw [show (4294967295 : Nat) = 2 ^ 32 - 1 from rfl, Nat.and_two_pow_sub_one_eq_mod, Nat.or_mod_two_pow, rr]
    congr 1
    exact Nat.mod_eq_of_lt (shr_lt 2 hx)
  have HZ := Lib.hid hz; clear hz
  go_enter Try.func64, Try.ntmps64
  go_wp2
  go_ret
  exact ⟨ret_eq (by rw [← HZ.out]; rfl), rfl⟩
theorem rrA6 (x : Nat) (hx : x < 4294967296) : (x : Int) / (64 : Int) = ((x >>> 6 : Nat) : Int) ∧ (x : Int) * (67108864 : Int) = ((x <<< (32 - 6) : Nat) : Int) ∧ x >>> 6 < 4294967296 ∧ x <<< (32 - 6) < 9223372036854775808 :=
  ⟨by rw [Nat.shiftRight_eq_div_pow]; omega, by rw [Nat.shiftLeft_eq]; omega, shr_lt _ hx, by rw [Nat.shiftLeft_eq]; omega⟩
















set_option maxRecDepth 100000 in
set_option maxHeartbeats 400000 in
theorem l3r6 (x : Nat) (w : World) (hx : x < 4294967296) :
    Calls Try.prog 64 #[.int .i64 x, .int .u64 6] w fun e w' => e = .returned (.int .i64 ((rr x 6 : Nat) : Int)) ∧ w = w' := by
  have hz : bits .and .i64 (bits .or .i64 ((x : Int) / (64 : Int)) ((x : Int) * (67108864 : Int))) (4294967295 : Int) = ((rr x 6 : Nat) : Int) := by
    obtain ⟨e1, e2, l1, l2⟩ := rrA6 x hx
    have l3 : x >>> 6 ||| x <<< (32 - 6) < 2 ^ 63 := Nat.or_lt_two_pow (by omega) (by omega)
    rw [e1, e2, i64_or_nat _ _ (by omega) (by omega), show (4294967295 : Int) = ((4294967295 : Nat) : Int) from rfl, i64_and_nat _ _ (by omega) (by omega)]
    congr 1
    rw [show (4294967295 : Nat) = 2 ^ 32 - 1 from rfl, Nat.and_two_pow_sub_one_eq_mod, Nat.or_mod_two_pow, rr]
    congr 1
    exact Nat.mod_eq_of_lt (shr_lt 6 hx)
  have HZ := Lib.hid hz; clear hz
  go_enter Try.func64, Try.ntmps64
  go_wp2
  go_ret
  exact ⟨ret_eq (by rw [← HZ.out]; rfl), rfl⟩
theorem rrA7 (x : Nat) (hx : x < 4294967296) : (x : Int) / (128 : Int) = ((x >>> 7 : Nat) : Int) ∧ (x : Int) * (33554432 : Int) = ((x <<< (32 - 7) : Nat) : Int) ∧ x >>> 7 < 4294967296 ∧ x <<< (32 - 7) < 9223372036854775808 :=
  ⟨by rw [Nat.shiftRight_eq_div_pow]; omega, by rw [Nat.shiftLeft_eq]; omega, shr_lt _ hx, by rw [Nat.shiftLeft_eq]; omega⟩
















set_option maxRecDepth 100000 in
set_option maxHeartbeats 400000 in
theorem l3r7 (x : Nat) (w : World) (hx : x < 4294967296) :
    Calls Try.prog 64 #[.int .i64 x, .int .u64 7] w fun e w' => e = .returned (.int .i64 ((rr x 7 : Nat) : Int)) ∧ w = w' := by
  have hz : bits .and .i64 (bits .or .i64 ((x : Int) / (128 : Int)) ((x : Int) * (33554432 : Int))) (4294967295 : Int) = ((rr x 7 : Nat) : Int) := by
    obtain ⟨e1, e2, l1, l2⟩ := rrA7 x hx
    have l3 : x >>> 7 ||| x <<< (32 - 7) < 2 ^ 63 := Nat.or_lt_two_pow (by omega) (by omega)
    rw [e1, e2, i64_or_nat _ _ (by omega) (by omega), show (4294967295 : Int) = ((4294967295 : Nat) : Int) from rfl, i64_and_nat _ _ (by omega) (by omega)]
    congr 1
    rw [show (4294967295 : Nat) = 2 ^ 32 - 1 from rfl, Nat.and_two_pow_sub_one_eq_mod, Nat.or_mod_two_pow, rr]
    congr 1
    exact Nat.mod_eq_of_lt (shr_lt 7 hx)
  have HZ := Lib.hid hz; clear hz
  go_enter Try.func64, Try.ntmps64
  go_wp2
  go_ret
  exact ⟨ret_eq (by rw [← HZ.out]; rfl), rfl⟩
theorem rrA11 (x : Nat) (hx : x < 4294967296) : (x : Int) / (2048 : Int) = ((x >>> 11 : Nat) : Int) ∧ (x : Int) * (2097152 : Int) = ((x <<< (32 - 11) : Nat) : Int) ∧ x >>> 11 < 4294967296 ∧ x <<< (32 - 11) < 9223372036854775808 :=
  ⟨by rw [Nat.shiftRight_eq_div_pow]; omega, by rw [Nat.shiftLeft_eq]; omega, shr_lt _ hx, by rw [Nat.shiftLeft_eq]; omega⟩
















set_option maxRecDepth 100000 in
set_option maxHeartbeats 400000 in
theorem l3r11 (x : Nat) (w : World) (hx : x < 4294967296) :
    Calls Try.prog 64 #[.int .i64 x, .int .u64 11] w fun e w' => e = .returned (.int .i64 ((rr x 11 : Nat) : Int)) ∧ w = w' := by
  have hz : bits .and .i64 (bits .or .i64 ((x : Int) / (2048 : Int)) ((x : Int) * (2097152 : Int))) (4294967295 : Int) = ((rr x 11 : Nat) : Int) := by
    obtain ⟨e1, e2, l1, l2⟩ := rrA11 x hx
    have l3 : x >>> 11 ||| x <<< (32 - 11) < 2 ^ 63 := Nat.or_lt_two_pow (by omega) (by omega)
    rw [e1, e2, i64_or_nat _ _ (by omega) (by omega), show (4294967295 : Int) = ((4294967295 : Nat) : Int) from rfl, i64_and_nat _ _ (by omega) (by omega)]
    congr 1
    rw [show (4294967295 : Nat) = 2 ^ 32 - 1 from rfl, Nat.and_two_pow_sub_one_eq_mod, Nat.or_mod_two_pow, rr]
    congr 1
    exact Nat.mod_eq_of_lt (shr_lt 11 hx)
  have HZ := Lib.hid hz; clear hz
  go_enter Try.func64, Try.ntmps64
  go_wp2
  go_ret
  exact ⟨ret_eq (by rw [← HZ.out]; rfl), rfl⟩
theorem rrA13 (x : Nat) (hx : x < 4294967296) : (x : Int) / (8192 : Int) = ((x >>> 13 : Nat) : Int) ∧ (x : Int) * (524288 : Int) = ((x <<< (32 - 13) : Nat) : Int) ∧ x >>> 13 < 4294967296 ∧ x <<< (32 - 13) < 9223372036854775808 :=
  ⟨by rw [Nat.shiftRight_eq_div_pow]; omega, by rw [Nat.shiftLeft_eq]; omega, shr_lt _ hx, by rw [Nat.shiftLeft_eq]; omega⟩
















set_option maxRecDepth 100000 in
set_option maxHeartbeats 400000 in
theorem l3r13 (x : Nat) (w : World) (hx : x < 4294967296) :
    Calls Try.prog 64 #[.int .i64 x, .int .u64 13] w fun e w' => e = .returned (.int .i64 ((rr x 13 : Nat) : Int)) ∧ w = w' := by
  have hz : bits .and .i64 (bits .or .i64 ((x : Int) / (8192 : Int)) ((x : Int) * (524288 : Int))) (4294967295 : Int) = ((rr x 13 : Nat) : Int) := by
    obtain ⟨e1, e2, l1, l2⟩ := rrA13 x hx
    have l3 : x >>> 13 ||| x <<< (32 - 13) < 2 ^ 63 := Nat.or_lt_two_pow (by omega) (by omega)
    rw [e1, e2, i64_or_nat _ _ (by omega) (by omega), show (4294967295 : Int) = ((4294967295 : Nat) : Int) from rfl, i64_and_nat _ _ (by omega) (by omega)]
    congr 1
    rw [show (4294967295 : Nat) = 2 ^ 32 - 1 from rfl, Nat.and_two_pow_sub_one_eq_mod, Nat.or_mod_two_pow, rr]
    congr 1
    exact Nat.mod_eq_of_lt (shr_lt 13 hx)
  have HZ := Lib.hid hz; clear hz
  go_enter Try.func64, Try.ntmps64
  go_wp2
  go_ret
  exact ⟨ret_eq (by rw [← HZ.out]; rfl), rfl⟩
theorem rrA17 (x : Nat) (hx : x < 4294967296) : (x : Int) / (131072 : Int) = ((x >>> 17 : Nat) : Int) ∧ (x : Int) * (32768 : Int) = ((x <<< (32 - 17) : Nat) : Int) ∧ x >>> 17 < 4294967296 ∧ x <<< (32 - 17) < 9223372036854775808 :=
  ⟨by rw [Nat.shiftRight_eq_div_pow]; omega, by rw [Nat.shiftLeft_eq]; omega, shr_lt _ hx, by rw [Nat.shiftLeft_eq]; omega⟩
















set_option maxRecDepth 100000 in
set_option maxHeartbeats 400000 in
theorem l3r17 (x : Nat) (w : World) (hx : x < 4294967296) :
    Calls Try.prog 64 #[.int .i64 x, .int .u64 17] w fun e w' => e = .returned (.int .i64 ((rr x 17 : Nat) : Int)) ∧ w = w' := by
  have hz : bits .and .i64 (bits .or .i64 ((x : Int) / (131072 : Int)) ((x : Int) * (32768 : Int))) (4294967295 : Int) = ((rr x 17 : Nat) : Int) := by
    obtain ⟨e1, e2, l1, l2⟩ := rrA17 x hx
    have l3 : x >>> 17 ||| x <<< (32 - 17) < 2 ^ 63 := Nat.or_lt_two_pow (by omega) (by omega)
    rw [e1, e2, i64_or_nat _ _ (by omega) (by omega), show (4294967295 : Int) = ((4294967295 : Nat) : Int) from rfl, i64_and_nat _ _ (by omega) (by omega)]
    congr 1
    rw [show (4294967295 : Nat) = 2 ^ 32 - 1 from rfl, Nat.and_two_pow_sub_one_eq_mod, Nat.or_mod_two_pow, rr]
    congr 1
    exact Nat.mod_eq_of_lt (shr_lt 17 hx)
  have HZ := Lib.hid hz; clear hz
  go_enter Try.func64, Try.ntmps64
  go_wp2
  go_ret
  exact ⟨ret_eq (by rw [← HZ.out]; rfl), rfl⟩
theorem rrA18 (x : Nat) (hx : x < 4294967296) : (x : Int) / (262144 : Int) = ((x >>> 18 : Nat) : Int) ∧ (x : Int) * (16384 : Int) = ((x <<< (32 - 18) : Nat) : Int) ∧ x >>> 18 < 4294967296 ∧ x <<< (32 - 18) < 9223372036854775808 :=
  ⟨by rw [Nat.shiftRight_eq_div_pow]; omega, by rw [Nat.shiftLeft_eq]; omega, shr_lt _ hx, by rw [Nat.shiftLeft_eq]; omega⟩
















set_option maxRecDepth 100000 in
set_option maxHeartbeats 400000 in
theorem l3r18 (x : Nat) (w : World) (hx : x < 4294967296) :
    Calls Try.prog 64 #[.int .i64 x, .int .u64 18] w fun e w' => e = .returned (.int .i64 ((rr x 18 : Nat) : Int)) ∧ w = w' := by
  have hz : bits .and .i64 (bits .or .i64 ((x : Int) / (262144 : Int)) ((x : Int) * (16384 : Int))) (4294967295 : Int) = ((rr x 18 : Nat) : Int) := by
    obtain ⟨e1, e2, l1, l2⟩ := rrA18 x hx
    have l3 : x >>> 18 ||| x <<< (32 - 18) < 2 ^ 63 := Nat.or_lt_two_pow (by omega) (by omega)
    rw [e1, e2, i64_or_nat _ _ (by omega) (by omega), show (4294967295 : Int) = ((4294967295 : Nat) : Int) from rfl, i64_and_nat _ _ (by omega) (by omega)]
    congr 1
    rw [show (4294967295 : Nat) = 2 ^ 32 - 1 from rfl, Nat.and_two_pow_sub_one_eq_mod, Nat.or_mod_two_pow, rr]
    congr 1
    exact Nat.mod_eq_of_lt (shr_lt 18 hx)
  have HZ := Lib.hid hz; clear hz
  go_enter Try.func64, Try.ntmps64
  go_wp2
  go_ret
  exact ⟨ret_eq (by rw [← HZ.out]; rfl), rfl⟩
theorem rrA19 (x : Nat) (hx : x < 4294967296) : (x : Int) / (524288 : Int) = ((x >>> 19 : Nat) : Int) ∧ (x : Int) * (8192 : Int) = ((x <<< (32 - 19) : Nat) : Int) ∧ x >>> 19 < 4294967296 ∧ x <<< (32 - 19) < 9223372036854775808 :=
  ⟨by rw [Nat.shiftRight_eq_div_pow]; omega, by rw [Nat.shiftLeft_eq]; omega, shr_lt _ hx, by rw [Nat.shiftLeft_eq]; omega⟩
















set_option maxRecDepth 100000 in
set_option maxHeartbeats 400000 in
theorem l3r19 (x : Nat) (w : World) (hx : x < 4294967296) :
    Calls Try.prog 64 #[.int .i64 x, .int .u64 19] w fun e w' => e = .returned (.int .i64 ((rr x 19 : Nat) : Int)) ∧ w = w' := by
  have hz : bits .and .i64 (bits .or .i64 ((x : Int) / (524288 : Int)) ((x : Int) * (8192 : Int))) (4294967295 : Int) = ((rr x 19 : Nat) : Int) := by
    obtain ⟨e1, e2, l1, l2⟩ := rrA19 x hx
    have l3 : x >>> 19 ||| x <<< (32 - 19) < 2 ^ 63 := Nat.or_lt_two_pow (by omega) (by omega)
    rw [e1, e2, i64_or_nat _ _ (by omega) (by omega), show (4294967295 : Int) = ((4294967295 : Nat) : Int) from rfl, i64_and_nat _ _ (by omega) (by omega)]
    congr 1
    rw [show (4294967295 : Nat) = 2 ^ 32 - 1 from rfl, Nat.and_two_pow_sub_one_eq_mod, Nat.or_mod_two_pow, rr]
    congr 1
    exact Nat.mod_eq_of_lt (shr_lt 19 hx)
  have HZ := Lib.hid hz; clear hz
  go_enter Try.func64, Try.ntmps64
  go_wp2
  go_ret
  exact ⟨ret_eq (by rw [← HZ.out]; rfl), rfl⟩
theorem rrA22 (x : Nat) (hx : x < 4294967296) : (x : Int) / (4194304 : Int) = ((x >>> 22 : Nat) : Int) ∧ (x : Int) * (1024 : Int) = ((x <<< (32 - 22) : Nat) : Int) ∧ x >>> 22 < 4294967296 ∧ x <<< (32 - 22) < 9223372036854775808 :=
  ⟨by rw [Nat.shiftRight_eq_div_pow]; omega, by rw [Nat.shiftLeft_eq]; omega, shr_lt _ hx, by rw [Nat.shiftLeft_eq]; omega⟩
















set_option maxRecDepth 100000 in
set_option maxHeartbeats 400000 in
theorem l3r22 (x : Nat) (w : World) (hx : x < 4294967296) :
    Calls Try.prog 64 #[.int .i64 x, .int .u64 22] w fun e w' => e = .returned (.int .i64 ((rr x 22 : Nat) : Int)) ∧ w = w' := by
  have hz : bits .and .i64 (bits .or .i64 ((x : Int) / (4194304 : Int)) ((x : Int) * (1024 : Int))) (4294967295 : Int) = ((rr x 22 : Nat) : Int) := by
    obtain ⟨e1, e2, l1, l2⟩ := rrA22 x hx
    have l3 : x >>> 22 ||| x <<< (32 - 22) < 2 ^ 63 := Nat.or_lt_two_pow (by omega) (by omega)
    rw [e1, e2, i64_or_nat _ _ (by omega) (by omega), show (4294967295 : Int) = ((4294967295 : Nat) : Int) from rfl, i64_and_nat _ _ (by omega) (by omega)]
    congr 1
    rw [show (4294967295 : Nat) = 2 ^ 32 - 1 from rfl, Nat.and_two_pow_sub_one_eq_mod, Nat.or_mod_two_pow, rr]
    congr 1
    exact Nat.mod_eq_of_lt (shr_lt 22 hx)
  have HZ := Lib.hid hz; clear hz
  go_enter Try.func64, Try.ntmps64
  go_wp2
  go_ret
  exact ⟨ret_eq (by rw [← HZ.out]; rfl), rfl⟩
theorem rrA25 (x : Nat) (hx : x < 4294967296) : (x : Int) / (33554432 : Int) = ((x >>> 25 : Nat) : Int) ∧ (x : Int) * (128 : Int) = ((x <<< (32 - 25) : Nat) : Int) ∧ x >>> 25 < 4294967296 ∧ x <<< (32 - 25) < 9223372036854775808 :=
  ⟨by rw [Nat.shiftRight_eq_div_pow]; omega, by rw [Nat.shiftLeft_eq]; omega, shr_lt _ hx, by rw [Nat.shiftLeft_eq]; omega⟩
















set_option maxRecDepth 100000 in
set_option maxHeartbeats 400000 in
theorem l3r25 (x : Nat) (w : World) (hx : x < 4294967296) :
    Calls Try.prog 64 #[.int .i64 x, .int .u64 25] w fun e w' => e = .returned (.int .i64 ((rr x 25 : Nat) : Int)) ∧ w = w' := by
  have hz : bits .and .i64 (bits .or .i64 ((x : Int) / (33554432 : Int)) ((x : Int) * (128 : Int))) (4294967295 : Int) = ((rr x 25 : Nat) : Int) := by
    obtain ⟨e1, e2, l1, l2⟩ := rrA25 x hx
    have l3 : x >>> 25 ||| x <<< (32 - 25) < 2 ^ 63 := Nat.or_lt_two_pow (by omega) (by omega)
    rw [e1, e2, i64_or_nat _ _ (by omega) (by omega), show (4294967295 : Int) = ((4294967295 : Nat) : Int) from rfl, i64_and_nat _ _ (by omega) (by omega)]
    congr 1
    rw [show (4294967295 : Nat) = 2 ^ 32 - 1 from rfl, Nat.and_two_pow_sub_one_eq_mod, Nat.or_mod_two_pow, rr]
    congr 1
    exact Nat.mod_eq_of_lt (shr_lt 25 hx)
  have HZ := Lib.hid hz; clear hz
  go_enter Try.func64, Try.ntmps64
  go_wp2
  go_ret
  exact ⟨ret_eq (by rw [← HZ.out]; rfl), rfl⟩
set_option maxRecDepth 100000 in
set_option maxHeartbeats 400000 in
theorem l3word (x : Nat) (w : World) (hx : x < 9223372036854775808) :
    Calls Try.prog 65 #[.int .i64 x] w fun e w' => e = .returned (.int .i64 ((x % 4294967296 : Nat) : Int)) ∧ w = w' := by
  have hz : bits .and .i64 (x : Int) (4294967295 : Int) = ((x % 4294967296 : Nat) : Int) := by
    rw [show (4294967295 : Int) = ((4294967295 : Nat) : Int) from rfl, i64_and_nat _ _ (by omega) (by omega)]
    congr 1
    rw [show (4294967295 : Nat) = 2 ^ 32 - 1 from rfl, Nat.and_two_pow_sub_one_eq_mod]
  have HZ := Lib.hid hz; clear hz
  go_enter Try.func65, Try.ntmps65
  go_wp2
  go_ret
  exact ⟨ret_eq (by rw [← HZ.out]; rfl), rfl⟩
theorem byte_w (b : UInt8) (k m : Nat) (M : Int) (hM : M = (m : Int)) (h : b.toNat <<< k = b.toNat * m) (hm : m ≤ 16777216) : ((b.toNat : Int) % 4294967296 * M) % 4294967296 = ((b.toNat <<< k : Nat) : Int) := by
  have hb := b.toNat_lt
  rw [h, hM]
  have h1 : b.toNat * m ≤ 255 * 16777216 := Nat.mul_le_mul (by omega) hm
  have e : (b.toNat : Int) % 4294967296 = (b.toNat : Int) := by omega
  rw [e, ← Int.natCast_mul]
  omega
theorem four_bits (a b c d : UInt8) (t : List UInt8) : bits .or .u32 (bits .or .u32 (bits .or .u32 ((a.toNat : Int) % 4294967296 * (16777216 : Int) % 4294967296) ((b.toNat : Int) % 4294967296 * (65536 : Int) % 4294967296)) ((c.toNat : Int) % 4294967296 * (256 : Int) % 4294967296)) ((d.toNat : Int) % 4294967296) = ((be4 (a :: b :: c :: d :: t) 0 : Nat) : Int) := by
  have e1 := byte_w a 24 16777216 16777216 rfl (Nat.shiftLeft_eq _ _) (by omega)
  have e2 := byte_w b 16 65536 65536 rfl (Nat.shiftLeft_eq _ _) (by omega)
  have e3 := byte_w c 8 256 256 rfl (Nat.shiftLeft_eq _ _) (by omega)
  have l1 := byte_shl a 24 (by omega)
  have l2 := byte_shl b 16 (by omega)
  have l3 := byte_shl c 8 (by omega)
  have e4 : (d.toNat : Int) % 4294967296 = (d.toNat : Int) := by have := d.toNat_lt; omega
  have l4 : d.toNat < 4294967296 := by have := d.toNat_lt; omega
  have l12 := Nat.or_lt_two_pow (n := 32) l1 l2
  have l123 := Nat.or_lt_two_pow (n := 32) l12 l3
  rw [e1, e2, e3, e4, u32_or_nat _ _ l1 l2, u32_or_nat _ _ l12 l3, u32_or_nat _ _ l123 l4]
  rfl
theorem four_bitsL (l : List UInt8) (hl : 4 ≤ l.length) (h0 : 0 < l.length) : bits .or .u32 (bits .or .u32 (bits .or .u32 ((l[0].toNat : Int) % 4294967296 * (16777216 : Int) % 4294967296) (((l[1]?.getD 0).toNat : Int) % 4294967296 * (65536 : Int) % 4294967296)) (((l[2]?.getD 0).toNat : Int) % 4294967296 * (256 : Int) % 4294967296)) (((l[3]?.getD 0).toNat : Int) % 4294967296) = ((be4 l 0 : Nat) : Int) := by
  match l, hl with
  | a :: b :: c :: d :: t, _ => exact four_bits a b c d t















theorem be4_drop (l : List UInt8) (i : Nat) : be4 (l.drop (4 * i)) 0 = be4 l i := by
  simp only [be4, List.getD_eq_getElem?_getD, List.getElem?_drop, Nat.mul_zero, Nat.add_zero, Nat.zero_add, Nat.add_assoc]
end Go.Proofs.Ytinacpjelephoaa
