/-
  The functions of the number chapter (impl and spec): each returns just what the plain functions of this file say. Conditions: lengths of strings as named in each contract.
-/
import Derived.Test.YtinacpjelephoaaRows
import Derived.Test.YtinacpjelephoaaRegion
import Derived.Deep.QuietTactic
import Derived.BigQuiet
import Derived.Deep.RegionLaw
import Derived.StillTailTactics
namespace Go.Proofs.Ytinacpjelephoaa
open Go.RowKit


theorem E_u8 : Elem Try.prog 22 5 (.int .u8 0) 1 1 := ⟨Try.underlying22, by kernel_rfl, rfl, by decide, by decide⟩

def inB (lo hi x : Int) : Bool := decide (lo ≤ x ∧ x ≤ hi)
theorem inB_true {lo hi x : Int} (h1 : lo ≤ x) (h2 : x ≤ hi) : inB lo hi x = true := by simp [inB, h1, h2]
theorem inB_false {lo hi x : Int} (h : ¬ (lo ≤ x ∧ x ≤ hi)) : inB lo hi x = false := by simp only [inB, decide_eq_false_iff_not]; exact h


set_option maxHeartbeats 400000 in
theorem within_any (x lo hi : Int) (w : World) :
    Calls Try.prog 32 #[.int .i64 x, .int .i64 lo, .int .i64 hi] w fun e w' => e = .returned (.bool (inB lo hi x)) ∧ w = w' := by
  by_cases h1 : lo ≤ x
  · go_enter Try.func32, Try.ntmps32
    go_wp2
    go_ret
    exact ⟨by simp [inB, h1], rfl⟩
  · go_enter Try.func32, Try.ntmps32
    go_wp2
    go_ret
    exact ⟨ret_eq (by rw [inB_false (by omega)]; rfl), rfl⟩
theorem within_yes (x lo hi : Int) (w : World) (h : lo ≤ x ∧ x ≤ hi) :
    Calls Try.prog 32 #[.int .i64 x, .int .i64 lo, .int .i64 hi] w fun e w' => e = .returned (.bool true) ∧ w = w' :=
  (within_any x lo hi w).mono fun _ _ hh => by rw [inB_true h.1 h.2] at hh; exact hh
theorem within_no (x lo hi : Int) (w : World) (h : ¬ (lo ≤ x ∧ x ≤ hi)) :
    Calls Try.prog 32 #[.int .i64 x, .int .i64 lo, .int .i64 hi] w fun e w' => e = .returned (.bool false) ∧ w = w' :=
  (within_any x lo hi w).mono fun _ _ hh => by rw [inB_false h] at hh; exact hh

set_option maxHeartbeats 400000 in
theorem l1In_any (x lo hi : Int) (w : World) :
    Calls Try.prog 45 #[.int .i64 x, .int .i64 lo, .int .i64 hi] w fun e w' => e = .returned (.bool (inB lo hi x)) ∧ w = w' := by
  by_cases h1 : lo ≤ x
  · go_enter Try.func45, Try.ntmps45
    go_wp2
    go_ret
    exact ⟨by simp [inB, h1], rfl⟩
  · go_enter Try.func45, Try.ntmps45
    go_wp2
    go_ret
    exact ⟨ret_eq (by rw [inB_false (by omega)]; rfl), rfl⟩
theorem l1In_yes (x lo hi : Int) (w : World) (h : lo ≤ x ∧ x ≤ hi) :
    Calls Try.prog 45 #[.int .i64 x, .int .i64 lo, .int .i64 hi] w fun e w' => e = .returned (.bool true) ∧ w = w' :=
  (l1In_any x lo hi w).mono fun _ _ hh => by rw [inB_true h.1 h.2] at hh; exact hh
theorem l1In_no (x lo hi : Int) (w : World) (h : ¬ (lo ≤ x ∧ x ≤ hi)) :
    Calls Try.prog 45 #[.int .i64 x, .int .i64 lo, .int .i64 hi] w fun e w' => e = .returned (.bool false) ∧ w = w' :=
  (l1In_any x lo hi w).mono fun _ _ hh => by rw [inB_false h] at hh; exact hh

def hexD (k : Nat) : UInt8 := [48, 49, 50, 51, 52, 53, 54, 55, 56, 57, 97, 98, 99, 100, 101, 102].getD k 0
def hexL (l : List UInt8) : List UInt8 := l.flatMap fun b => [hexD (b.toNat / 16), hexD (b.toNat % 16)]
theorem hexL_length (l : List UInt8) : (hexL l).length = 2 * l.length := by
  induction l with
  | nil => rfl
  | cons b l ih => simp only [hexL, List.flatMap_cons, List.length_append, List.length_cons, List.length_nil] at *; omega
theorem hexL_snoc (l : List UInt8) (k : Nat) (h : k < l.length) : hexL (l.take (k + 1)) = hexL (l.take k) ++ [hexD (l[k].toNat / 16), hexD (l[k].toNat % 16)] := by
  rw [List.take_succ_eq_append_getElem h]
  simp only [hexL, List.flatMap_append, List.flatMap_cons, List.flatMap_nil, List.append_nil]


























































theorem run_digit (n : Nat) (h : n < 16) (W : World) (k : IntKind) (m : Int) (hm : m = (n : Int)) : (Instr.index 9 (.string { data := #[48, 49, 50, 51, 52, 53, 54, 55, 56, 57, 97, 98, 99, 100, 101, 102] }) (.int k m)).run Try.prog W = .ok (.int .u8 ((hexD n).toNat : Int)) W := by
  subst hm
  rw [run_index_string W 9 _ k (n : Int) Try.underlying9]
  have hs : ByteArray.size { data := #[48, 49, 50, 51, 52, 53, 54, 55, 56, 57, 97, 98, 99, 100, 101, 102] } = 16 := rfl
  rw [dif_pos ⟨by omega, by rw [hs]; omega⟩]
  congr 3
  have hn : n = 0 ∨ n = 1 ∨ n = 2 ∨ n = 3 ∨ n = 4 ∨ n = 5 ∨ n = 6 ∨ n = 7 ∨ n = 8 ∨ n = 9 ∨ n = 10 ∨ n = 11 ∨ n = 12 ∨ n = 13 ∨ n = 14 ∨ n = 15 := by omega
  rcases hn with rfl | rfl | rfl | rfl | rfl | rfl | rfl | rfl | rfl | rfl | rfl | rfl | rfl | rfl | rfl | rfl <;> rfl
set_option maxHeartbeats 400000 in
theorem iHex_any (l : List UInt8) (w : World) (hl : l.length ≤ 1048576) :
    Calls Try.prog 15 #[.string (bs l)] w fun e w' => e = .returned (.string (bs (hexL l))) ∧ Below w.heap.size w w' := by
  go_enter Try.func15, Try.ntmps15
  go_wp2_with (at_make; refine wpList_mkCap E_u8 _ rfl _ _ rfl w.heap.size .i64 .i64 _ (2 * l.length) rfl rfl (by omega) (by omega) (Nat.le_refl _) ?_; intro w1 hown1 hgrow1)
  go_loopw [3, 4] (fun v i wr => ∃ k : Nat, k ≤ l.length ∧ i = .int .i64 k ∧ wr.ownsRow w.heap.size 5 1 v (2 * k) ((hexL (l.take k)).map u8v) ∧ Below w.heap.size w wr) (fun _ i _ => l.length - (intOf i).toNat)
  case atStart =>
    exact ⟨0, Nat.zero_le _, rfl, hown1, (Below.refl _ _).grown hgrow1 (Nat.le_refl _) (by simp)⟩
  case round =>
    obtain ⟨k, hk, rfl, hown, hbel⟩ := hrel
    by_cases hlt : k < l.length
    · have hsn := hexL_snoc l k hlt
      have hb : l[k].toNat < 256 := l[k].toNat_lt
      have H1 := Lib.hid hown; clear hown
      have H2 := Lib.hid hbel; clear hbel
      have H3 := Lib.hid hsn; clear hsn
      go_wp2
      have hd1 := fun W => run_digit (l[k].toNat / 16) (by omega) W .u8 ((l[k].toNat : Int) / 16) (by omega)
      have hd2 := fun W => run_digit (l[k].toNat % 16) (by omega) W .u8 ((l[k].toNat : Int) % 16) (by omega)
      refine wp_region_x 12 [0, 1, 2, 3, 4, 5, 6, 7, 8, 9, 10, 11] (by kernel_rfl) (by kernel_rfl) ?_
      iterate 11 (refine wpX_quiet rfl (by kernel_rfl) rfl ?_; go_wp2; refine ⟨rfl, ?_⟩)
      refine wpX_actor rfl (by kernel_rfl) ?_
      go_wp2
      refine ⟨(Ext.refl _).alloc _, ?_⟩
      refine wpX_nil ?_
      simp only [List.drop_succ_cons, List.drop_zero]
      clear hd1 hd2
      go_wp2_with (at_builtin; refine wpList_app E_u8 _ rfl (.tmp 15) (.tmp 26) rfl w.heap.size u3 (2 * k) _ rfl (H1.out.drew.alloc _) _ _ _ _ rfl (Reads.new rfl) (u8s_one [hexD (l[k].toNat / 16), hexD (l[k].toNat % 16)]) (by omega) (Nat.le_trans H2.out.size (by simp)) ?_; intro v1 w1 hown1 hg1 hat1)
      have hown2 : w1.ownsRow w.heap.size 5 1 v1 (2 * (k + 1)) ((hexL (l.take (k + 1))).map u8v) := by
        rw [H3.out, List.map_append]
        exact hown1
      have hbel2 : Below w.heap.size w w1 := ((H2.out.drew.alloc H2.out.size _).grown hg1 (Nat.le_trans H2.out.size (by simp)) (fun g hg => (H1.out.lt g hg).1))
      exact ⟨⟨k + 1, by omega, by go_num, hown2, hbel2⟩, by simp [intOf]; omega⟩
    · have hkl : k = l.length := by omega
      subst hkl
      have H1 := Lib.hid hown; clear hown
      have H2 := Lib.hid hbel; clear hbel
      go_wp2_with (refine wpList_bytes_own _ rfl 22 9 _ rfl 5 E_u8.ht Try.underlying5 Try.underlying9 w.heap.size _ (2 * l.length) _ rfl (by exact H1.out) ?_)
      go_ret
      exact ⟨ret_eq (by first | rfl | simp), H2.out⟩

end Go.Proofs.Ytinacpjelephoaa
