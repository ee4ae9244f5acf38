/-
  Fixed and ReadFixed (impl and spec) as plain functions. Conditions: a string's length is an int.
-/
import Derived.Test.YtinacpjelephoaaNumB
namespace Go.Proofs.Ytinacpjelephoaa
open Go.RowKit

def fixedL : Nat → Nat → List UInt8
  | 0, _ => []
  | k + 1, n => fixedL k (n / 256) ++ [UInt8.ofNat (n % 256)]
theorem fixedL_length : ∀ (k n : Nat), (fixedL k n).length = k
  | 0, _ => rfl
  | k + 1, n => by simp [fixedL, fixedL_length k]
theorem fixedL_top : ∀ (k n : Nat), fixedL (k + 1) (n % 256 ^ (k + 1)) = UInt8.ofNat (n / 256 ^ k % 256) :: fixedL k (n % 256 ^ k) := by
  intro k
  induction k with
  | zero => intro n; simp [fixedL]
  | succ k ih =>
    intro n
    rw [fixedL]
    have a1 : n % 256 ^ (k + 1 + 1) / 256 = (n / 256) % 256 ^ (k + 1) := by
      rw [Nat.pow_succ 256 (k+1), Nat.mul_comm, Nat.mod_mul_right_div_self]
    have a2 : n % 256 ^ (k + 1 + 1) % 256 = n % 256 := by
      rw [Nat.pow_succ 256 (k+1), Nat.mod_mul_left_mod]
    have a3 : n % 256 ^ (k + 1) / 256 = (n / 256) % 256 ^ k := by
      rw [Nat.pow_succ, Nat.mul_comm, Nat.mod_mul_right_div_self]
    have a4 : n % 256 ^ (k + 1) % 256 = n % 256 := by
      rw [Nat.pow_succ, Nat.mod_mul_left_mod]
    rw [a1, a2, ih (n / 256), List.cons_append]
    congr 1
    · rw [Nat.div_div_eq_div_mul, Nat.pow_succ, Nat.mul_comm]
    · rw [fixedL, a3, a4]
theorem fixed_step (j width n : Nat) (h : j + 1 ≤ width) :
    (List.map u8v (List.replicate (j + 1) 0 ++ fixedL (width - (j + 1)) (n % 256 ^ (width - (j + 1))))).set j (.int .u8 ((((n / 256 ^ (width - (j + 1))) % 256 : Nat) : Int))) =
      List.map u8v (List.replicate j 0 ++ fixedL (width - j) (n % 256 ^ (width - j))) := by
  obtain ⟨k, hk⟩ : ∃ k, width = j + 1 + k := ⟨width - (j + 1), by omega⟩
  subst hk
  have e1 : j + 1 + k - (j + 1) = k := by omega
  have e2 : j + 1 + k - j = k + 1 := by omega
  rw [e1, e2, fixedL_top k n]
  rw [List.replicate_succ', List.append_assoc, List.map_append, List.map_append]
  rw [List.set_append_right _ _ (by simp)]
  simp only [List.length_map, List.length_replicate, Nat.sub_self, List.singleton_append, List.map_cons, List.set_cons_zero]
  congr 2
  simp [u8v]
def fixedF (n width : Int) : List UInt8 := if 1 ≤ width ∧ width ≤ 7 ∧ 0 ≤ n ∧ n < 256 ^ width.toNat then fixedL width.toNat n.toNat else []
theorem cast_256 (k : Nat) : ((256 ^ k : Nat) : Int) = (256 : Int) ^ k := Int.natCast_pow 256 k
theorem fixedF_nat {n width : Nat} (h1 : 1 ≤ width) (h2 : width ≤ 7) (h3 : n < 256 ^ width) : fixedF (n : Int) (width : Int) = fixedL width n := by
  have : (n : Int) < 256 ^ width := by rw [← cast_256]; exact Int.ofNat_lt.2 h3
  rw [fixedF, if_pos ⟨by omega, by omega, by omega, by rw [Int.toNat_natCast]; exact this⟩]
  rw [Int.toNat_natCast, Int.toNat_natCast]
theorem fixedF_big {n width : Nat} (h3 : ¬ n < 256 ^ width) : fixedF (n : Int) (width : Int) = [] := by
  have : ¬ ((n : Int) < 256 ^ width) := by rw [← cast_256]; intro h; exact h3 (Int.ofNat_lt.1 h)
  rw [fixedF, if_neg (fun h => this (by have := h.2.2.2; rw [Int.toNat_natCast] at this; exact this))]
theorem pow_le_56 (width : Nat) (h2 : width ≤ 7) : (2:Int)^(8*width) ≤ 72057594037927936 ∧ 1 ≤ (2:Int)^(8*width) := by
  have : width = 0 ∨ width = 1 ∨ width = 2 ∨ width = 3 ∨ width = 4 ∨ width = 5 ∨ width = 6 ∨ width = 7 := by omega
  rcases this with rfl|rfl|rfl|rfl|rfl|rfl|rfl|rfl <;> decide
theorem wrap_pow (width : Nat) (h2 : width ≤ 7) : wrap64 (2^(8*width)) = 2^(8*width) :=
  IntWalk.wrap64_in _ (by have := pow_le_56 width h2; omega)
theorem pow_256 (width : Nat) : ((256 ^ width : Nat) : Int) = 2^(8*width) := by
  rw [Int.pow_mul]; simp


set_option maxRecDepth 100000 in
set_option maxHeartbeats 400000 in
theorem ifixed_good (n width : Nat) (w : World) (h1 : 1 ≤ width) (h2 : width ≤ 7) (h3 : n < 256 ^ width) :
    Calls Try.prog 10 #[.int .i64 n, .int .i64 width] w fun e w' => e = .returned (.string (bs (fixedL width n))) ∧ Below w.heap.size w w' := by
  have hn63 : (n : Int) < 2^(8*width) := by have := pow_256 width; omega
  have hp := pow_le_56 width h2
  have hn : n ≤ 72057594037927936 := by omega
  have hb1 : decide ((n:Int) < 0) = false := by simp
  have hb2 : decide (wrap64 (2 ^ (8 * width)) ≤ (n:Int)) = false := by rw [wrap_pow _ h2]; simp; omega
  clear hn63 hp
  go_enter Try.func10, Try.ntmps10
  go_wp2_with (first
    | (go_at_call 32; refine (within_yes _ _ _ _ (by omega)).mono ?_; rintro e w' ⟨rfl, rfl⟩)
    | (at_make; refine wpList_mk E_u8 _ rfl _ _ rfl w.heap.size .i64 .i64 _ _ width rfl rfl rfl rfl (by omega) (Nat.le_refl _) ?_; intro w1 hown1 hgrow1))
  go_loopw [0, 6] (fun nn i wr => ∃ k : Nat, k ≤ width ∧ i = .int .i64 ((k : Int) - 1) ∧ nn = .int .i64 ((n / 256 ^ (width - k) : Nat) : Int) ∧ wr.ownsRow w.heap.size 5 1 (.slice (some ⟨w.heap.size, 0, none⟩) width width) width ((List.replicate k 0 ++ fixedL (width - k) (n % 256 ^ (width - k))).map u8v) ∧ Below w.heap.size w wr) (fun _ i _ => (intOf i + 1).toNat)
  case atStart =>
    refine ⟨width, Nat.le_refl _, rfl, by simp, ?_, (Below.refl _ _).grown hgrow1 (Nat.le_refl _) (by simp)⟩
    have : (madeCells (Value.int IntKind.u8 0).cells (width * 1)).toList = (List.replicate width (0 : UInt8) ++ fixedL (width - width) (n % 256 ^ (width - width))).map u8v := by
      rw [Nat.mul_one]
      simp only [Value.cells, toList_madeCells_one, Nat.sub_self, fixedL, List.append_nil, List.map_replicate]
      rfl
    rw [this] at hown1
    exact hown1
  case round =>
    obtain ⟨k, hk, rfl, rfl, hown, hbel⟩ := hrel
    rcases Nat.eq_zero_or_pos k with rfl | hk0
    · have Hown := Lib.hid hown; clear hown
      have Hbel := Lib.hid hbel; clear hbel
      clear hown1 hgrow1 hb1 hb2
      go_wp2_with (refine wpList_bytes_own _ rfl 22 9 _ rfl 5 E_u8.ht Try.underlying5 Try.underlying9 w.heap.size _ width _ rfl (by exact Hown.out) ?_)
      go_ret
      exact ⟨ret_eq (by simp [Nat.mod_eq_of_lt h3]), Hbel.out⟩
    · obtain ⟨j, rfl⟩ : ∃ j, k = j + 1 := ⟨k - 1, by omega⟩
      have hc : wr.cell? ⟨w.heap.size, j, none⟩ = some (.int .u8 0) := by
        rw [hown.cellAt j (by omega)]
        rw [List.map_append, List.getElem?_append_left (by simp)]
        simp [List.getElem?_replicate, u8v]
      have hf : wr.frozen? ⟨w.heap.size, j, none⟩ = false := hown.frozenAt j
      have hst := hown.stored j (.int .u8 ((((n / 256 ^ (width - (j + 1))) % 256 : Nat) : Int)))
      rw [fixed_step j width n hk] at hst
      have hm : n / 256 ^ (width - (j+1)) ≤ n := Nat.div_le_self _ _
      have hdiv : n / 256 ^ (width - (j+1)) / 256 = n / 256 ^ (width - j) := by
        rw [Nat.div_div_eq_div_mul, ← Nat.pow_succ]; congr 2; omega
      generalize n / 256 ^ (width - (j+1)) = m at *
      have hb2' := (hbel.grown hst.2 hbel.size (by simp))
      have Hst := Lib.hid hst.1; clear hst
      have Hbel := Lib.hid hb2'; clear hb2' hbel
      have Hdiv := Lib.hid hdiv; clear hdiv
      clear hown hown1 hgrow1 hb1 hb2
      go_wp2
      have hw : bits BinOp.and IntKind.i64 (m : Int) 255 % 256 = ((m % 256 : Nat) : Int) := by
        rw [i64_and_255 m (by omega)]; omega
      rw [hw]
      exact ⟨⟨j, by omega, rfl, by rw [← Hdiv.out]; rfl, Hst.out, Hbel.out⟩, by simp only [intOf]; omega⟩
set_option maxHeartbeats 400000 in
theorem iFixed_any (n width : Int) (w : World) (hn : i64ok n) :
    Calls Try.prog 10 #[.int .i64 n, .int .i64 width] w fun e w' => e = .returned (.string (bs (fixedF n width))) ∧ Below w.heap.size w w' := by
  obtain ⟨hn1, hn2⟩ := hn
  by_cases h1 : 1 ≤ width ∧ width ≤ 7
  · obtain ⟨W, rfl⟩ := Int.eq_ofNat_of_zero_le (show 0 ≤ width by omega)
    obtain ⟨h3, h4⟩ := h1
    by_cases h2 : n < 0
    · have hfin : fixedF n W = [] := by rw [fixedF, if_neg (by omega)]
      have Hfin := Lib.hid hfin; clear hfin
      go_enter Try.func10, Try.ntmps10
      go_wp2_with (go_at_call 32; refine (within_yes _ _ _ _ (by omega)).mono ?_; rintro e w' ⟨rfl, rfl⟩)
      go_ret
      exact ⟨ret_eq (by rw [Hfin.out]; rfl), Below.refl _ _⟩
    · obtain ⟨m, rfl⟩ := Int.eq_ofNat_of_zero_le (show 0 ≤ n by omega)
      by_cases h5 : m < 256 ^ W
      · rw [fixedF_nat (by omega) (by omega) h5]
        exact ifixed_good m W w (by omega) (by omega) h5
      · have hfin := fixedF_big h5
        have Hfin := Lib.hid hfin; clear hfin
        have hp := pow_le_56 W (by omega)
        have hb1 : decide ((m:Int) < 0) = false := by simp
        have hb2 : decide (wrap64 (2 ^ (8 * W)) ≤ (m:Int)) = true := by rw [wrap_pow _ (by omega), ← pow_256]; exact decide_eq_true (by omega)
        clear hp h5
        go_enter Try.func10, Try.ntmps10
        go_wp2_with (go_at_call 32; refine (within_yes _ _ _ _ (by omega)).mono ?_; rintro e w' ⟨rfl, rfl⟩)
        go_ret
        exact ⟨ret_eq (by rw [Hfin.out]; rfl), Below.refl _ _⟩
  · have hfin : fixedF n width = [] := by rw [fixedF, if_neg (fun h => h1 ⟨h.1, h.2.1⟩)]
    have Hfin := Lib.hid hfin; clear hfin
    go_enter Try.func10, Try.ntmps10
    go_wp2_with (go_at_call 32; refine (within_no _ _ _ _ h1).mono ?_; rintro e w' ⟨rfl, rfl⟩)
    go_ret
    exact ⟨ret_eq (by rw [Hfin.out]; rfl), Below.refl _ _⟩




































































attribute [irreducible] fixedF
end Go.Proofs.Ytinacpjelephoaa
