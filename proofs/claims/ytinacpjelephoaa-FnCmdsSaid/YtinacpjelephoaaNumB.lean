/-
  Var and Fixed (impl and spec) as plain functions on numbers. Conditions: none.
-/
import Derived.Test.YtinacpjelephoaaNum
namespace Go.Proofs.Ytinacpjelephoaa
open Go.RowKit

def varL (n : Nat) : List UInt8 := if n < 128 then [UInt8.ofNat n] else UInt8.ofNat (128 + n % 128) :: varL (n / 128)
termination_by n
decreasing_by omega
theorem varL_lt {n : Nat} (h : n < 128) : varL n = [UInt8.ofNat n] := by rw [varL, if_pos h]
theorem varL_ge {n : Nat} (h : ¬ n < 128) : varL n = UInt8.ofNat (128 + n % 128) :: varL (n / 128) := by rw [varL, if_neg h]
theorem varL_length : ∀ (k n : Nat), n < 128 ^ (k + 1) → (varL n).length ≤ k + 1
  | 0, n, h => by rw [varL_lt (by omega)]; simp
  | k + 1, n, h => by
    by_cases hn : n < 128
    · rw [varL_lt hn]; simp
    · rw [varL_ge hn, List.length_cons]
      have := varL_length k (n / 128) (by rw [Nat.pow_succ] at h; omega)
      omega
theorem varL_length7 {n : Nat} (h : n ≤ 562949953421311) : (varL n).length ≤ 7 := varL_length 6 n (by omega)
def varF (n : Int) : List UInt8 := if 0 ≤ n ∧ n ≤ 562949953421311 then varL n.toNat else []
theorem varF_nat {n : Nat} (h : n ≤ 562949953421311) : varF (n : Int) = varL n := by rw [varF, if_pos (by omega)]; simp
theorem varF_length (n : Int) : (varF n).length ≤ 7 := by
  unfold varF
  split
  · exact varL_length7 (by omega)
  · simp
theorem byte_of {x : Int} {n : Nat} (h : x = (n : Int)) (h2 : n < 256) : Value.int .u8 x = u8v (UInt8.ofNat n) := by
  subst h
  simp only [u8v, UInt8.toNat_ofNat']
  congr 2
  omega

theorem one1 {v : Value} (h : v.oneCell' = true) : ∀ u ∈ #[v].toList, u.oneCell' = true := by
  intro u hu
  simp only [List.mem_singleton] at hu
  rw [hu]
  exact h
theorem own_snoc {w : World} {base : Nat} {e : TypeId} {v : Value} {acc : List UInt8} {x : Int} (h : w.ownsRow base e 1 v (acc.length + 1) (acc.map u8v ++ #[Value.int .u8 x].toList)) (b : UInt8) (hx : x = (b.toNat : Int)) :
    w.ownsRow base e 1 v (acc ++ [b]).length ((acc ++ [b]).map u8v) := by
  subst hx
  rw [List.map_append, List.length_append]
  exact h
theorem ofNat_toNat {n : Nat} (h : n < 256) : (((UInt8.ofNat n).toNat : Nat) : Int) = (n : Int) := by
  rw [UInt8.toNat_ofNat']
  omega

theorem or_128 (a : Nat) (h : a < 128) : bits .or .i64 (a : Int) 128 = ((128 + a : Nat) : Int) := by
  rw [show (128 : Int) = ((128 : Nat) : Int) from rfl, i64_or_nat a 128 (by omega) (by omega)]
  congr 1
  have h1 := Nat.two_pow_add_eq_or_of_lt (i := 7) (b := a) (by omega) 1
  rw [Nat.or_comm]
  simpa using h1.symm


set_option maxRecDepth 100000 in
set_option maxHeartbeats 400000 in
theorem sVar_any (n : Int) (w : World) :
    Calls Try.prog 34 #[.int .i64 n] w fun e w' => e = .returned (.string (bs (varF n))) ∧ Below w.heap.size w w' := by
  by_cases hn : 0 ≤ n ∧ n ≤ 562949953421311
  · obtain ⟨N, rfl⟩ := Int.eq_ofNat_of_zero_le hn.1
    have hN : N ≤ 562949953421311 := by omega
    rw [varF_nat hN]
    have hlen := varL_length7 hN
    clear hn
    go_enter Try.func34, Try.ntmps34
    go_wp2_with (go_at_call 45; refine (l1In_yes _ _ _ _ (by omega)).mono ?_; rintro e w' ⟨rfl, rfl⟩)
    go_loopw [0, 3] (fun nn v wr => ∃ (m : Nat) (acc : List UInt8), m ≤ 562949953421311 ∧ nn = .int .i64 m ∧ acc ++ varL m = varL N ∧ wr.ownsRow w.heap.size 5 1 v acc.length (acc.map u8v) ∧ Below w.heap.size w wr) (fun nn _ _ => (intOf nn).toNat)
    case atStart =>
      exact ⟨N, [], hN, rfl, rfl, World.ownsRow_made w #[] 0 (Nat.le_refl _) (by simp [maxLen]) rfl, (Below.refl _ _).alloc (Nat.le_refl _) _⟩
    case round =>
      obtain ⟨m, acc, hm, rfl, hacc, hown, hbel⟩ := hrel
      have hal : acc.length + (varL m).length = (varL N).length := by rw [← hacc, List.length_append]
      have hacl : acc.length ≤ 7 := by omega
      have H1 := Lib.hid hown; clear hown
      have H2 := Lib.hid hbel; clear hbel
      have H3 := Lib.hid hacc; clear hacc
      clear hal
      by_cases hlt : 128 ≤ m
      · have hlt2 : 128 ≤ (m : Int) := by omega
        go_wp2_with (at_builtin; refine wpList_app E_u8 _ rfl (.tmp 10) (.tmp 15) rfl w.heap.size u3 acc.length _ rfl (H1.out.alloc _) _ _ _ _ rfl (Reads.new rfl) (one1 rfl) (by omega) (Nat.le_trans H2.out.size (by simp)) ?_; intro v1 w1 hown1 hg1 hat1)
        have hb : (128 + (m : Int) % 128) = ((UInt8.ofNat (128 + m % 128)).toNat : Int) := by rw [ofNat_toNat (by omega)]; omega
        refine ⟨⟨m / 128, acc ++ [UInt8.ofNat (128 + m % 128)], by omega, by go_num, ?_, own_snoc hown1 _ hb, ((H2.out.alloc H2.out.size _).grown hg1 (Nat.le_trans H2.out.size (by simp)) (fun g hg => (H1.out.lt g hg).1))⟩, by simp [intOf]; omega⟩
        rw [List.append_assoc, List.singleton_append, ← varL_ge (by omega)]
        exact H3.out
      · have hm2 : m ≤ 127 := by omega
        have hfin : acc ++ [UInt8.ofNat m] = varL N := by rw [← H3.out, varL_lt (by omega)]
        have H4 := Lib.hid hfin; clear hfin
        go_wp2_with (first
          | (at_builtin; refine wpList_app E_u8 _ rfl (.tmp 19) (.tmp 22) rfl w.heap.size u3 acc.length _ rfl (H1.out.alloc _) _ _ _ _ rfl (Reads.new rfl) (one1 rfl) (by omega) (Nat.le_trans H2.out.size (by simp)) ?_; intro v1 w1 hown1 hg1 hat1)
          | (refine wpList_bytes_own _ rfl 22 9 _ rfl 5 E_u8.ht Try.underlying5 Try.underlying9 w.heap.size _ _ (acc ++ [UInt8.ofNat m]) rfl (own_snoc hown1 _ (ofNat_toNat (by omega)).symm) ?_))
        go_ret
        exact ⟨ret_eq (by rw [← H4.out]; rfl), ((H2.out.alloc H2.out.size _).grown hg1 (Nat.le_trans H2.out.size (by simp)) (fun g hg => (H1.out.lt g hg).1))⟩
  · have hfin : varF n = [] := by rw [varF, if_neg hn]
    have H := Lib.hid hfin; clear hfin
    go_enter Try.func34, Try.ntmps34
    go_wp2_with (go_at_call 45; refine (l1In_no _ _ _ _ hn).mono ?_; rintro e w' ⟨rfl, rfl⟩)
    go_ret
    exact ⟨ret_eq (by rw [H.out]; rfl), Below.refl _ _⟩

set_option maxRecDepth 100000 in
set_option maxHeartbeats 400000 in
theorem iVar_any (n : Int) (w : World) :
    Calls Try.prog 8 #[.int .i64 n] w fun e w' => e = .returned (.string (bs (varF n))) ∧ Below w.heap.size w w' := by
  by_cases hn : 0 ≤ n ∧ n ≤ 562949953421311
  · obtain ⟨N, rfl⟩ := Int.eq_ofNat_of_zero_le hn.1
    have hN : N ≤ 562949953421311 := by omega
    rw [varF_nat hN]
    have hlen := varL_length7 hN
    clear hn
    go_enter Try.func8, Try.ntmps8
    go_wp2_with (go_at_call 32; refine (within_yes _ _ _ _ (by omega)).mono ?_; rintro e w' ⟨rfl, rfl⟩)
    go_loopw [0, 3] (fun nn v wr => ∃ (m : Nat) (acc : List UInt8), m ≤ 562949953421311 ∧ nn = .int .i64 m ∧ acc ++ varL m = varL N ∧ wr.ownsRow w.heap.size 5 1 v acc.length (acc.map u8v) ∧ Below w.heap.size w wr) (fun nn _ _ => (intOf nn).toNat)
    case atStart =>
      exact ⟨N, [], hN, rfl, rfl, World.ownsRow_made w #[] 0 (Nat.le_refl _) (by simp [maxLen]) rfl, (Below.refl _ _).alloc (Nat.le_refl _) _⟩
    case round =>
      obtain ⟨m, acc, hm, rfl, hacc, hown, hbel⟩ := hrel
      have hal : acc.length + (varL m).length = (varL N).length := by rw [← hacc, List.length_append]
      have hacl : acc.length ≤ 7 := by omega
      have H1 := Lib.hid hown; clear hown
      have H2 := Lib.hid hbel; clear hbel
      have H3 := Lib.hid hacc; clear hacc
      clear hal
      by_cases hlt : 127 < m
      · have hlt2 : 127 < (m : Int) := by omega
        go_wp2_with (at_builtin; refine wpList_app E_u8 _ rfl (.tmp 10) (.tmp 15) rfl w.heap.size u3 acc.length _ rfl (H1.out.alloc _) _ _ _ _ rfl (Reads.new rfl) (one1 rfl) (by omega) (Nat.le_trans H2.out.size (by simp)) ?_; intro v1 w1 hown1 hg1 hat1)
        have hb : bits .or .i64 (bits .and .i64 (m : Int) 127) 128 % 256 = ((UInt8.ofNat (128 + m % 128)).toNat : Int) := by rw [ofNat_toNat (by omega), i64_and_127 m (by omega), or_128 _ (by omega)]; omega
        refine ⟨⟨m / 128, acc ++ [UInt8.ofNat (128 + m % 128)], by omega, by go_num, ?_, own_snoc hown1 _ hb, ((H2.out.alloc H2.out.size _).grown hg1 (Nat.le_trans H2.out.size (by simp)) (fun g hg => (H1.out.lt g hg).1))⟩, by simp [intOf]; omega⟩
        rw [List.append_assoc, List.singleton_append, ← varL_ge (by omega)]
        exact H3.out
      · have hm2 : m ≤ 127 := by omega
        have hfin : acc ++ [UInt8.ofNat m] = varL N := by rw [← H3.out, varL_lt (by omega)]
        have H4 := Lib.hid hfin; clear hfin
        go_wp2_with (first
          | (at_builtin; refine wpList_app E_u8 _ rfl (.tmp 19) (.tmp 22) rfl w.heap.size u3 acc.length _ rfl (H1.out.alloc _) _ _ _ _ rfl (Reads.new rfl) (one1 rfl) (by omega) (Nat.le_trans H2.out.size (by simp)) ?_; intro v1 w1 hown1 hg1 hat1)
          | (refine wpList_bytes_own _ rfl 22 9 _ rfl 5 E_u8.ht Try.underlying5 Try.underlying9 w.heap.size _ _ (acc ++ [UInt8.ofNat m]) rfl (own_snoc hown1 _ (ofNat_toNat (by omega)).symm) ?_))
        go_ret
        exact ⟨ret_eq (by rw [← H4.out]; rfl), ((H2.out.alloc H2.out.size _).grown hg1 (Nat.le_trans H2.out.size (by simp)) (fun g hg => (H1.out.lt g hg).1))⟩
  · have hfin : varF n = [] := by rw [varF, if_neg hn]
    have H := Lib.hid hfin; clear hfin
    go_enter Try.func8, Try.ntmps8
    go_wp2_with (go_at_call 32; refine (within_no _ _ _ _ hn).mono ?_; rintro e w' ⟨rfl, rfl⟩)
    go_ret
    exact ⟨ret_eq (by rw [H.out]; rfl), Below.refl _ _⟩

end Go.Proofs.Ytinacpjelephoaa
