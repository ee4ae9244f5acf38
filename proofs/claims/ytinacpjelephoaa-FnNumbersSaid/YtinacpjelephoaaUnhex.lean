/-
  Unhex (impl and spec) as the plain function unhexL. Conditions: a string of at most 2^40 bytes.
-/
import Derived.Test.YtinacpjelephoaaNumB
namespace Go.Proofs.Ytinacpjelephoaa
open Go.RowKit

def hexVal (n : Nat) : Int := if 48 ≤ n ∧ n ≤ 57 then (n : Int) - 48 else if 97 ≤ n ∧ n ≤ 102 then (n : Int) - 87 else -1
theorem hexVal_range (n : Nat) : -1 ≤ hexVal n ∧ hexVal n < 16 := by
  unfold hexVal
  split
  · omega
  · split <;> omega
set_option maxRecDepth 100000 in
theorem hexVal_hexD : ∀ k : Nat, k < 16 → hexVal (hexD k).toNat = (k : Int) := by decide
set_option maxRecDepth 100000 in
theorem hexD_hexVal : ∀ n : Nat, n < 256 → 0 ≤ hexVal n → (hexD (hexVal n).toNat).toNat = n := by decide
def unhexL : List UInt8 → Option (List UInt8)
  | [] => some []
  | [_] => none
  | a :: b :: r => if hexVal a.toNat < 0 ∨ hexVal b.toNat < 0 then none else (unhexL r).map (UInt8.ofNat (16 * (hexVal a.toNat).toNat + (hexVal b.toNat).toNat) :: ·)
def unhexR (l : List UInt8) : List UInt8 × Bool := match unhexL l with
  | none => ([], false)
  | some x => (x, true)
theorem unhexL_odd : ∀ (n : Nat) (l : List UInt8), l.length = 2 * n + 1 → unhexL l = none
  | 0, [_], _ => rfl
  | n + 1, a :: b :: r, h => by
    rw [unhexL]
    split
    · rfl
    · rw [unhexL_odd n r (by simp only [List.length_cons] at h; omega)]; rfl
theorem unhexL_at {l : List UInt8} {A : Nat} (h : A + 1 < l.length) : unhexL (l.drop A) =
    if hexVal l[A].toNat < 0 ∨ hexVal l[A + 1].toNat < 0 then none else (unhexL (l.drop (A + 2))).map (UInt8.ofNat (16 * (hexVal l[A].toNat).toNat + (hexVal l[A + 1].toNat).toNat) :: ·) := by
  rw [List.drop_eq_getElem_cons (by omega : A < l.length), List.drop_eq_getElem_cons (by omega : A + 1 < l.length), unhexL]
attribute [local irreducible] hexVal unhexL unhexR
theorem hex_or (X Y : Nat) (hX : X < 16) (hY : Y < 16) : bits BinOp.or IntKind.i64 ((X : Int) * 16) (Y : Int) = ((16 * X + Y : Nat) : Int) := by
  rw [show ((X : Int) * 16) = ((X * 16 : Nat) : Int) by omega, i64_or_nat _ _ (by omega) (by omega)]
  congr 1
  have h1 : X = 0 ∨ X = 1 ∨ X = 2 ∨ X = 3 ∨ X = 4 ∨ X = 5 ∨ X = 6 ∨ X = 7 ∨ X = 8 ∨ X = 9 ∨ X = 10 ∨ X = 11 ∨ X = 12 ∨ X = 13 ∨ X = 14 ∨ X = 15 := by omega
  have h2 : Y = 0 ∨ Y = 1 ∨ Y = 2 ∨ Y = 3 ∨ Y = 4 ∨ Y = 5 ∨ Y = 6 ∨ Y = 7 ∨ Y = 8 ∨ Y = 9 ∨ Y = 10 ∨ Y = 11 ∨ Y = 12 ∨ Y = 13 ∨ Y = 14 ∨ Y = 15 := by omega
  rcases h1 with rfl|rfl|rfl|rfl|rfl|rfl|rfl|rfl|rfl|rfl|rfl|rfl|rfl|rfl|rfl|rfl <;> rcases h2 with rfl|rfl|rfl|rfl|rfl|rfl|rfl|rfl|rfl|rfl|rfl|rfl|rfl|rfl|rfl|rfl <;> rfl

set_option maxRecDepth 100000 in
set_option maxHeartbeats 400000 in
theorem hexValue_any (b : Nat) (h : b < 256) (w : World) :
    Calls Try.prog 33 #[.int .u8 (b : Int)] w fun e w' => e = .returned (.int .i64 (hexVal b)) ∧ w = w' := by
  by_cases h1 : 48 ≤ b
  · by_cases h2 : b ≤ 57
    · have hf : hexVal b = (b : Int) - 48 := by unfold hexVal; rw [if_pos ⟨h1, h2⟩]
      have Hf := Lib.hid hf; clear hf
      go_enter Try.func33, Try.ntmps33
      go_wp2
      go_ret
      exact ⟨ret_eq (by rw [Hf.out]; rfl), rfl⟩
    · by_cases h3 : 97 ≤ b
      · by_cases h4 : b ≤ 102
        · have hf : hexVal b = (b : Int) - 87 := by unfold hexVal; rw [if_neg (by omega), if_pos ⟨h3, h4⟩]
          have Hf := Lib.hid hf; clear hf
          go_enter Try.func33, Try.ntmps33
          go_wp2
          go_ret
          exact ⟨ret_eq (by rw [Hf.out]; exact congrArg (Value.int .i64) (by omega : (b : Int) - 97 + 10 = (b : Int) - 87)), rfl⟩
        · have hf : hexVal b = -1 := by unfold hexVal; rw [if_neg (by omega), if_neg (by omega)]
          have Hf := Lib.hid hf; clear hf
          go_enter Try.func33, Try.ntmps33
          go_wp2
          go_ret
          exact ⟨ret_eq (by rw [Hf.out]; rfl), rfl⟩
      · have hf : hexVal b = -1 := by unfold hexVal; rw [if_neg (by omega), if_neg (by omega)]
        have Hf := Lib.hid hf; clear hf
        go_enter Try.func33, Try.ntmps33
        go_wp2
        go_ret
        exact ⟨ret_eq (by rw [Hf.out]; rfl), rfl⟩
  · have hf : hexVal b = -1 := by unfold hexVal; rw [if_neg (by omega), if_neg (by omega)]
    have Hf := Lib.hid hf; clear hf
    go_enter Try.func33, Try.ntmps33
    go_wp2
    go_ret
    exact ⟨ret_eq (by rw [Hf.out]; rfl), rfl⟩










































































































































set_option maxRecDepth 100000 in
set_option maxHeartbeats 1000000 in
theorem iUnhex_any (l : List UInt8) (w : World) (h63 : l.length ≤ 1099511627776) :
    Calls Try.prog 14 #[.string (bs l)] w fun e w' => e = .returned (.tuple #[.string (bs (unhexR l).1), .bool (unhexR l).2]) ∧ Below w.heap.size w w' := by
  by_cases hodd : l.length % 2 = 1
  · have hr : unhexR l = ([], false) := by unfold unhexR; rw [unhexL_odd (l.length / 2) l (by omega)]
    have Hr := Lib.hid hr; clear hr
    have ht : (!((l.length : Int) % 2 == 0)) = true := by simp; omega
    go_enter Try.func14, Try.ntmps14
    go_wp2
    go_ret2
    exact ⟨ret_eq (by rw [Hr.out]; rfl), Below.refl _ _⟩
  · have ht : (!((l.length : Int) % 2 == 0)) = false := by simp; omega
    have hev : l.length % 2 = 0 := by omega
    clear hodd
    go_enter Try.func14, Try.ntmps14
    go_wp2_with (at_make; refine wpList_mkCap E_u8 _ rfl _ _ rfl w.heap.size .i64 .i64 _ (l.length / 2) rfl rfl (by omega) (by omega) (Nat.le_refl _) ?_; intro w1 hown1 hgrow1)
    go_loopw [4, 5] (fun v aa wr => ∃ (A : Nat) (acc : List UInt8), A ≤ l.length ∧ (l.length - A) % 2 = 0 ∧ aa = .int .i64 (A : Int) ∧ acc.length ≤ A ∧ unhexL l = (unhexL (l.drop A)).map (acc ++ ·) ∧ wr.ownsRow w.heap.size 5 1 v acc.length (acc.map u8v) ∧ Below w.heap.size w wr) (fun _ aa _ => l.length - (intOf aa).toNat)
    case atStart =>
      exact ⟨0, [], Nat.zero_le _, by omega, rfl, Nat.le_refl _, by simp, hown1, (Below.refl _ _).grown hgrow1 (Nat.le_refl _) (by simp)⟩
    case round =>
      obtain ⟨A, acc, hA, hpar, rfl, hal, hun, hown, hbel⟩ := hrel
      have H1 := Lib.hid hown; clear hown
      have H2 := Lib.hid hbel; clear hbel
      by_cases hlt : A < l.length
      · have hA1 : A + 1 < l.length := by omega
        rw [unhexL_at hA1] at hun
        have hb0 : l[A].toNat < 256 := l[A].toNat_lt
        have hb1 : l[A + 1].toNat < 256 := l[A + 1].toNat_lt
        have hx := hexVal_range l[A].toNat
        have hy := hexVal_range l[A + 1].toNat
        have hcx := fun W => hexValue_any l[A].toNat hb0 W
        have hcy := fun W => hexValue_any l[A + 1].toNat hb1 W
        generalize hX : hexVal l[A].toNat = x at *
        generalize hY : hexVal l[A + 1].toNat = y at *
        clear hX hY
        have Hcx := Lib.hid hcx; clear hcx
        have Hcy := Lib.hid hcy; clear hcy
        by_cases hbad : x < 0 ∨ y < 0
        · rw [if_pos hbad] at hun
          have hr : unhexR l = ([], false) := by unfold unhexR; rw [hun]; rfl
          have Hr := Lib.hid hr; clear hr hun
          by_cases hx0 : x < 0
          · clear hbad
            go_wp2
            refine wp_region_x 9 [0, 1, 2, 4, 5, 6, 7, 3, 8] (by kernel_rfl) (by kernel_rfl) ?_
            iterate 7 (refine wpX_quiet rfl (by kernel_rfl) rfl ?_; go_wp2; refine ⟨rfl, ?_⟩)
            refine wpX_actor rfl (by kernel_rfl) ?_
            go_wp2_with fail
            refine (Hcx.out _).mono ?_; rintro e w9 ⟨rfl, rfl⟩
            go_wp2
            refine ⟨Ext.refl _, ?_⟩
            refine wpX_actor rfl (by kernel_rfl) ?_
            go_wp2_with fail
            refine (Hcy.out _).mono ?_; rintro e w9 ⟨rfl, rfl⟩
            go_wp2
            refine ⟨Ext.refl _, ?_⟩
            refine wpX_nil ?_
            simp only [List.drop_succ_cons, List.drop_zero]
            go_wp2
            go_ret2
            exact ⟨ret_eq (by rw [Hr.out]; rfl), H2.out.drew⟩
          · have hy0 : y < 0 := by omega
            clear hbad
            go_wp2
            refine wp_region_x 9 [0, 1, 2, 4, 5, 6, 7, 3, 8] (by kernel_rfl) (by kernel_rfl) ?_
            iterate 7 (refine wpX_quiet rfl (by kernel_rfl) rfl ?_; go_wp2; refine ⟨rfl, ?_⟩)
            refine wpX_actor rfl (by kernel_rfl) ?_
            go_wp2_with fail
            refine (Hcx.out _).mono ?_; rintro e w9 ⟨rfl, rfl⟩
            go_wp2
            refine ⟨Ext.refl _, ?_⟩
            refine wpX_actor rfl (by kernel_rfl) ?_
            go_wp2_with fail
            refine (Hcy.out _).mono ?_; rintro e w9 ⟨rfl, rfl⟩
            go_wp2
            refine ⟨Ext.refl _, ?_⟩
            refine wpX_nil ?_
            simp only [List.drop_succ_cons, List.drop_zero]
            go_wp2
            go_ret2
            exact ⟨ret_eq (by rw [Hr.out]; rfl), H2.out.drew⟩
        · rw [if_neg hbad] at hun
          obtain ⟨X, rfl⟩ := Int.eq_ofNat_of_zero_le (show 0 ≤ x by omega)
          obtain ⟨Y, rfl⟩ := Int.eq_ofNat_of_zero_le (show 0 ≤ y by omega)
          rw [Int.toNat_natCast, Int.toNat_natCast] at hun
          have hun2 : unhexL l = (unhexL (l.drop (A + 2))).map ((acc ++ [UInt8.ofNat (16 * X + Y)]) ++ ·) := by
            rw [hun, Option.map_map]
            congr 1
            funext z
            simp
          have hX16 : X < 16 := by omega
          have hY16 : Y < 16 := by omega
          have H3 := Lib.hid hun2; clear hun2 hun hbad hx hy
          go_wp2
          refine wp_region_x 9 [0, 1, 2, 4, 5, 6, 7, 3, 8] (by kernel_rfl) (by kernel_rfl) ?_
          iterate 7 (refine wpX_quiet rfl (by kernel_rfl) rfl ?_; go_wp2; refine ⟨rfl, ?_⟩)
          refine wpX_actor rfl (by kernel_rfl) ?_
          go_wp2_with fail
          refine (Hcx.out _).mono ?_; rintro e w9 ⟨rfl, rfl⟩
          go_wp2
          refine ⟨Ext.refl _, ?_⟩
          refine wpX_actor rfl (by kernel_rfl) ?_
          go_wp2_with fail
          refine (Hcy.out _).mono ?_; rintro e w9 ⟨rfl, rfl⟩
          go_wp2
          refine ⟨Ext.refl _, ?_⟩
          refine wpX_nil ?_
          simp only [List.drop_succ_cons, List.drop_zero]
          go_wp2_with (at_builtin; refine wpList_app E_u8 _ rfl (.tmp 37) (.tmp 43) rfl w.heap.size u4 acc.length _ rfl (H1.out.drew.alloc _) _ _ _ _ rfl (Reads.new rfl) (one1 rfl) (by omega) (Nat.le_trans H2.out.size (by simp)) ?_; intro v1 w1 hown1 hg1 hat1)
          have hbel9 := (H2.out.drew.alloc H2.out.size _).grown hg1 (Nat.le_trans H2.out.size (by simp)) (fun g hg => (H1.out.lt g hg).1)
          have hb : bits BinOp.or IntKind.i64 ((X : Int) * 16) (Y : Int) % 256 = ((UInt8.ofNat (16 * X + Y)).toNat : Int) := by rw [ofNat_toNat (by omega)]; rw [hex_or X Y hX16 hY16]; omega
          have hown3 := own_snoc hown1 _ hb
          clear hb hown1
          go_wp2
          exact ⟨⟨A + 2, acc ++ [UInt8.ofNat (16 * X + Y)], by omega, by omega, by go_num, by rw [List.length_append]; simp; omega, H3.out, hown3, hbel9⟩, by simp only [intOf]; omega⟩
      · have hAl : A = l.length := by omega
        subst hAl
        rw [List.drop_length] at hun
        have hr : unhexR l = (acc, true) := by
          unfold unhexR
          rw [hun]
          unfold unhexL
          simp
        have Hr := Lib.hid hr; clear hr hun
        go_wp2_with (refine wpList_bytes_own _ rfl 22 9 _ rfl 5 E_u8.ht Try.underlying5 Try.underlying9 w.heap.size _ _ acc rfl (by exact H1.out) ?_)
        go_ret2
        exact ⟨ret_eq (by rw [Hr.out]; rfl), H2.out⟩

end Go.Proofs.Ytinacpjelephoaa
