/-
  The laws' helpers on slices of strings: marks laid, marks held, two slices alike. Conditions: as each contract names them.
-/
import Derived.Test.YtoffelfcmfpooaaDec
import Derived.Test.YtoffelfcmfpooaaUnframe
namespace Go.Proofs.Ytoffelfcmfpooaa
open Go.RowKit

def markL (k : Nat) : List UInt8 := 109 :: decN k
def marks (k n : Nat) : List (List UInt8) := (List.range n).map fun i => markL (k + i)
theorem marks_length (k n : Nat) : (marks k n).length = n := by simp [marks]
theorem marks_succ (k n : Nat) : marks k (n + 1) = marks k n ++ [markL (k + n)] := by simp [marks, List.range_succ]
theorem marks_get (k n i : Nat) (h : i < n) : (marks k n)[i]? = some (markL (k + i)) := by
  simp [marks, List.getElem?_map, List.getElem?_range h]
theorem Below.grownBy' {w w' : World} (h : Below w.heap.size w w') (r : Option Nat) : w.grownBy w' r := ⟨h.os, h.tape, h.output, h.size, fun i hi _ => h.block i hi⟩
theorem marks_step (k n j : Nat) (xs : List (List UInt8)) (hn : n = xs.length) (h : j < n) :
    ((marks k j ++ xs.drop j).map strv).set j (strv (markL (k + j))) = (marks k (j + 1) ++ xs.drop (j + 1)).map strv := by
  subst hn
  rw [List.map_append, List.set_append_right _ _ (by simp [marks_length]), List.length_map, marks_length, Nat.sub_self, List.drop_eq_getElem_cons h, marks_succ, List.map_cons, List.set_cons_zero, List.append_assoc, List.map_append, List.singleton_append, List.map_cons]
/-- a slice value that holds these cells -/
def SlR (w : World) (size : Nat) (v : Value) (n : Nat) (xs : List Value) : Prop := ∃ A c, v = .slice A n c ∧ Reads w size A n xs
theorem SlR.of_own {w : World} {base size : Nat} {e : TypeId} {v : Value} {n : Nat} {xs : List Value} (h : w.ownsRow base e size v n xs) : SlR w size v n xs := by
  have h2 := h.2
  rcases h2 with ⟨rfl, rfl⟩ | ⟨g, cap, cur, rfl, _⟩
  · exact ⟨none, 0, rfl, Reads.of_own h⟩
  · exact ⟨_, _, rfl, Reads.of_own h⟩
theorem SlR.below {w w' : World} {size : Nat} {v : Value} {n : Nat} {xs : List Value} (h : SlR w size v n xs) (hb : Below w.heap.size w w') : SlR w' size v n xs := by
  obtain ⟨A, c, rfl, h⟩ := h
  exact ⟨A, c, rfl, h.below hb⟩
attribute [local irreducible] markL marks dB

set_option maxRecDepth 100000 in
set_option maxHeartbeats 1000000 in
theorem markText_any (M : Nat) (hM0 : 1 ≤ M) (hM : M ≤ 9223372036854775807) (w : World) :
    Calls Try.prog 45 #[.int .i64 (M : Int)] w fun e w' => e = .returned (.string (bs (markL M))) ∧ Below w.heap.size w w' := by
  have hlen := decN_19 (m := M) (by omega)
  have hml : markL M = 109 :: decN M := by unfold markL; rfl
  rw [hml]
  clear hml
  obtain ⟨n, hn⟩ : ∃ n : Int, n = (M : Int) := ⟨_, rfl⟩
  rw [← hn]
  have hn0 : decide (n ≤ 0) = false := by simp only [decide_eq_false_iff_not]; omega
  have HN := Lib.hid hn; clear hn
  go_enter Try.func45, Try.ntmps45
  go_wp2
  go_loopw [0, 3] (fun nn v wr => ∃ (m : Nat) (acc : List UInt8) (x : Int), m ≤ 9223372036854775807 ∧ nn = .int .i64 x ∧ x = (m : Int) ∧ v = .string (bs acc) ∧ decN m ++ acc = decN M ∧ Below w.heap.size w wr) (fun nn _ _ => (intOf nn).natAbs)
  case atStart =>
    exact ⟨M, [], n, hM, rfl, HN.out, rfl, List.append_nil _, Below.refl _ _⟩
  case round =>
    obtain ⟨m, acc, x, hm, rfl, hx, rfl, hacc, hbel⟩ := hrel
    have hal : (decN m).length + acc.length = (decN M).length := by rw [← hacc, List.length_append]
    have H2 := Lib.hid hbel; clear hbel
    rcases Nat.eq_zero_or_pos m with rfl | hp
    · rw [decN_zero, List.nil_append] at hacc
      have hx0 : x = 0 := by rw [hx]; rfl
      subst hx0
      clear hx
      have hal2 : acc.length ≤ 19 := by rw [decN_zero] at hal; simp at hal; omega
      have H3 := Lib.hid hacc; clear hacc hal
      go_wp2
      go_ret
      exact ⟨ret_eq (by rw [← H3.out]; first | rfl | simp), H2.out⟩
    · subst hx
      rw [decN_pos hp, List.append_assoc, List.singleton_append] at hacc
      have H3 := Lib.hid hacc; clear hacc
      have hal2 : acc.length ≤ 19 := by omega
      clear hal
      go_wp2_with (refine wpList_bytes_own _ rfl 92 9 _ rfl 5 E_u8.ht Try.underlying5 Try.underlying9 0 _ _ [dB (m % 10)] rfl (own_lit1' _ (by rw [dB_toNat (by omega)]; omega)) ?_)
      all_goals refine ⟨⟨m / 10, dB (m % 10) :: acc, _, by omega, rfl, by omega, rfl, H3.out, H2.out.alloc H2.out.size _⟩, by simp only [intOf]; omega⟩

set_option maxRecDepth 100000 in
set_option maxHeartbeats 1000000 in
theorem markStringS_any (base : Nat) (v : Value) (xs : List (List UInt8)) (k : Nat) (w : World) (hb : base ≤ w.heap.size) (hk1 : 1 ≤ k) (hk2 : k + xs.length ≤ 4611686018427387904)
    (hown : w.ownsRow base 9 1 v xs.length (xs.map strv)) :
    Calls Try.prog 46 #[v, .int .i64 (k : Int)] w fun e w' => e = .returned (.int .i64 ((k + xs.length : Nat) : Int)) ∧ w'.ownsRow base 9 1 v xs.length ((marks k xs.length).map strv) ∧ w.grownBy w' v.ownBlock := by
  rcases Nat.eq_zero_or_pos xs.length with h0 | h0
  · have hm : marks k xs.length = [] := by rw [h0]; unfold marks; rfl
    have hx : xs = [] := List.eq_nil_of_length_eq_zero h0
    subst hx
    obtain ⟨A, c, rfl, _⟩ := SlR.of_own hown
    rw [hm]
    have H1 := Lib.hid hown; clear hown hm
    go_enter Try.func46, Try.ntmps46
    go_wp2
    go_loop [1, 5] (fun kk i => kk = .int .i64 (k : Int) ∧ i = .int .i64 0) (fun _ _ => 0)
    case atStart => exact ⟨rfl, rfl⟩
    case round =>
      obtain ⟨rfl, rfl⟩ := hrel
      go_wp2
      go_ret
      exact ⟨ret_eq rfl, H1.out, World.grownBy.refl _ _⟩
  · obtain ⟨g, c, rfl, hg1, hg2⟩ := own_form hown h0
    obtain ⟨n, hn⟩ : ∃ n, n = xs.length := ⟨_, rfl⟩
    rw [← hn] at hown hk2 h0 ⊢
    have HN := Lib.hid hn; clear hn
    have H0 := Lib.hid hown; clear hown
    go_enter Try.func46, Try.ntmps46
    go_wp2
    go_loopw [1, 5] (fun kk ii wr => ∃ j : Nat, j ≤ n ∧ kk = .int .i64 ((k + j : Nat) : Int) ∧ ii = .int .i64 (j : Int) ∧ wr.ownsRow base 9 1 (.slice (some ⟨g, 0, none⟩) n c) n ((marks k j ++ xs.drop j).map strv) ∧ w.grownBy wr (some g)) (fun _ ii _ => n - (intOf ii).toNat)
    case atStart =>
      exact ⟨0, Nat.zero_le _, by go_num, rfl, by have : marks k 0 = [] := by unfold marks; rfl
                                                  rw [this]; exact H0.out, World.grownBy.refl _ _⟩
    case round =>
      obtain ⟨j, hj, rfl, rfl, hown, hgr⟩ := hrel
      by_cases hlt : j < n
      · have hst := marks_step k n j xs HN.out hlt
        have H1 := Lib.hid hown; clear hown
        have H2 := Lib.hid hgr; clear hgr
        have H3 := Lib.hid hst; clear hst
        go_wp2_with fail
        refine (markText_any (k + j) (by omega) (by omega) _).mono ?_; rintro e w1 ⟨rfl, hb1⟩
        have hown2 := H1.out.kept (only_of_below hb1 none) (by simp [Value.ownBlock])
        have hgr2 := World.grownBy.trans H2.out (Below.grownBy' hb1 (some g))
        have hc : ∃ u, w1.cell? ⟨g, j, none⟩ = some u := by
          have := hown2.cellAt j (by omega)
          have hl := hown2.1
          rw [List.getElem?_eq_getElem (by omega)] at this
          exact ⟨_, this⟩
        obtain ⟨u, hc⟩ := hc
        have hf : w1.frozen? ⟨g, j, none⟩ = false := hown2.frozenAt j
        have hst2 := hown2.stored j (strv (markL (k + j)))
        rw [H3.out] at hst2
        have K1 := Lib.hid hst2.1
        have hgr3 := World.grownBy.trans hgr2 hst2.2
        have K2 := Lib.hid hgr3
        clear hst2 hgr3 hgr2 hown2 hb1
        go_wp2
        exact ⟨⟨j + 1, by omega, by go_num, by go_num, K1.out, K2.out⟩, by simp only [intOf]; omega⟩
      · have hjn : j = n := by omega
        subst hjn
        have hd : xs.drop j = [] := List.drop_of_length_le (by have := HN.out; omega)
        rw [hd, List.append_nil] at hown
        have H1 := Lib.hid hown; clear hown
        have H2 := Lib.hid hgr; clear hgr
        clear hd
        go_wp2
        go_ret
        exact ⟨ret_eq rfl, H1.out, H2.out⟩

set_option maxRecDepth 100000 in
set_option maxHeartbeats 1000000 in
theorem heldStringS_any (v : Value) (n k : Nat) (w : World) (hk1 : 1 ≤ k) (hk2 : k + n ≤ 4611686018427387904)
    (hr : SlR w 1 v n ((marks k n).map strv)) :
    Calls Try.prog 48 #[v, .int .i64 (k : Int)] w fun e w' => e = .returned (.int .i64 ((k + n : Nat) : Int)) ∧ Below w.heap.size w w' := by
  obtain ⟨A, c, rfl, hR⟩ := hr
  go_enter Try.func48, Try.ntmps48
  go_wp2
  go_loopw [1, 5] (fun kk ii wr => ∃ j : Nat, j ≤ n ∧ kk = .int .i64 ((k + j : Nat) : Int) ∧ ii = .int .i64 (j : Int) ∧ Below w.heap.size w wr) (fun _ ii _ => n - (intOf ii).toNat)
  case atStart => exact ⟨0, Nat.zero_le _, by go_num, rfl, Below.refl _ _⟩
  case round =>
    obtain ⟨j, hj, rfl, rfl, hbel⟩ := hrel
    by_cases hlt : j < n
    · obtain ⟨ad, rfl, hcells⟩ := hR.2 (by omega)
      have hc := hcells j (strv (markL (k + j))) (by rw [List.getElem?_map, marks_get k n j hlt]; rfl)
      have hc2 : wr.cell? (ad.add j) = some (.string (bs (markL (k + j)))) := by
        rw [hbel.cell (World.block_lt_of_cell? _ _ hc)]; exact hc
      have H2 := Lib.hid hbel; clear hbel
      have HR := Lib.hid hcells; clear hcells hc hR
      go_wp2
      refine wp_region_x 7 [0, 1, 2, 3, 4, 5, 6] (by kernel_rfl) (by kernel_rfl) ?_
      iterate 5 (refine wpX_quiet rfl (by kernel_rfl) rfl ?_; go_wp2; refine ⟨rfl, ?_⟩)
      refine wpX_actor rfl (by kernel_rfl) ?_
      go_wp2_with fail
      refine (markText_any (k + j) (by omega) (by omega) _).mono ?_; rintro e w1 ⟨rfl, hb1⟩
      have B1 := Lib.hid hb1; clear hb1
      go_wp2
      refine ⟨Ext.of_below B1.out, ?_⟩
      refine wpX_quiet rfl (by kernel_rfl) rfl ?_; go_wp2; refine ⟨rfl, ?_⟩
      refine wpX_nil ?_
      simp only [List.drop_succ_cons, List.drop_zero]
      go_wp2
      exact ⟨⟨j + 1, by omega, by go_num, by go_num, H2.out.drew.trans (B1.out.mono H2.out.size)⟩, by simp only [intOf]; omega⟩
    · have hjn : j = n := by omega
      subst hjn
      have H2 := Lib.hid hbel; clear hbel hR
      go_wp2
      go_ret
      exact ⟨ret_eq rfl, H2.out⟩

set_option maxRecDepth 100000 in
set_option maxHeartbeats 1000000 in
theorem eqStringS_any (v v' : Value) (xs : List (List UInt8)) (w : World) (hn : xs.length ≤ 4611686018427387904)
    (hr : SlR w 1 v xs.length (xs.map strv)) (hr' : SlR w 1 v' xs.length (xs.map strv)) :
    Calls Try.prog 77 #[v, v'] w fun e w' => e = .returned (.bool true) ∧ Below w.heap.size w w' := by
  obtain ⟨A, c, rfl, hR⟩ := hr
  obtain ⟨A', c', rfl, hR'⟩ := hr'
  go_enter Try.func77, Try.ntmps77
  go_wp2
  go_loopw [5] (fun ii wr => ∃ j : Nat, j ≤ xs.length ∧ ii = .int .i64 (j : Int) ∧ Below w.heap.size w wr) (fun ii _ => xs.length - (intOf ii).toNat)
  case atStart => exact ⟨0, Nat.zero_le _, rfl, Below.refl _ _⟩
  case round =>
    obtain ⟨j, hj, rfl, hbel⟩ := hrel
    by_cases hlt : j < xs.length
    · obtain ⟨ad, rfl, hcells⟩ := hR.2 (by omega)
      obtain ⟨ad', rfl, hcells'⟩ := hR'.2 (by omega)
      have hc := hcells j (strv xs[j]) (by rw [List.getElem?_map, List.getElem?_eq_getElem hlt]; rfl)
      have hc' := hcells' j (strv xs[j]) (by rw [List.getElem?_map, List.getElem?_eq_getElem hlt]; rfl)
      have hc2 : wr.cell? (ad.add j) = some (.string (bs xs[j])) := by
        rw [hbel.cell (World.block_lt_of_cell? _ _ hc)]; exact hc
      have hc2' : wr.cell? (ad'.add j) = some (.string (bs xs[j])) := by
        rw [hbel.cell (World.block_lt_of_cell? _ _ hc')]; exact hc'
      have H2 := Lib.hid hbel; clear hbel
      clear hcells hc hR hcells' hc' hR'
      generalize xs[j] = x at *
      go_wp2
      refine wp_region_x 9 [0, 1, 2, 3, 4, 5, 6, 7, 8] (by kernel_rfl) (by kernel_rfl) ?_
      iterate 9 (refine wpX_quiet rfl (by kernel_rfl) rfl ?_; go_wp2; refine ⟨rfl, ?_⟩)
      refine wpX_nil ?_
      simp only [List.drop_succ_cons, List.drop_zero]
      go_wp2
      exact ⟨⟨j + 1, by omega, by go_num, H2.out.drew⟩, by simp only [intOf]; omega⟩
    · have hjn : j = xs.length := by omega
      subst hjn
      have H2 := Lib.hid hbel; clear hbel hR hR'
      go_wp2
      go_ret
      exact ⟨ret_eq rfl, H2.out⟩

end Go.Proofs.Ytoffelfcmfpooaa
