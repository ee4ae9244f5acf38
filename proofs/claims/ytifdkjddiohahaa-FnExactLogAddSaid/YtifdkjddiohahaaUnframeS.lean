/-
  The reference's l4Take and Unframe as the same plain functions. Conditions: a string of at most 2^40 bytes.
-/
import Derived.Test.YtifdkjddiohahaaUnframe
namespace Go.Proofs.Ytifdkjddiohahaa
open Go.RowKit

def l4T (s : List UInt8) (at_ : Int) : List UInt8 × Int :=
  if (l4V s 1 at_).2 < 0 ∨ (((l4V s 1 at_).1.headD 0 : Nat) : Int) > s.length - (l4V s 1 at_).2 then ([], -1)
  else ((s.drop (l4V s 1 at_).2.toNat).take ((l4V s 1 at_).1.headD 0), (l4V s 1 at_).2 + ((l4V s 1 at_).1.headD 0 : Nat))
theorem l4T_1 {s : List UInt8} {at_ : Int} (h : (l4V s 1 at_).2 < 0) : l4T s at_ = ([], -1) := if_pos (Or.inl h)
theorem l4T_2 {s : List UInt8} {at_ : Int} {x k : Nat} (h : l4V s 1 at_ = ([x], (k : Int))) (hb : (x : Int) > s.length - (k : Int)) : l4T s at_ = ([], -1) := by
  unfold l4T
  rw [h]
  exact if_pos (Or.inr hb)
theorem l4T_3 {s : List UInt8} {at_ : Int} {x k : Nat} (h : l4V s 1 at_ = ([x], (k : Int))) (hb : ¬ (x : Int) > s.length - (k : Int)) : l4T s at_ = ((s.drop k).take x, (k : Int) + (x : Int)) := by
  unfold l4T
  rw [h]
  exact if_neg (fun hh => hh.elim (fun h1 => by have : (0 : Int) ≤ (k : Int) := by omega
                                                exact absurd h1 (by omega)) hb)
theorem l4T_len (s : List UInt8) (at_ : Int) : (l4T s at_).1.length ≤ s.length := by
  unfold l4T
  split
  · simp
  · simp only [List.length_take, List.length_drop]; omega
theorem l4T_range (s : List UInt8) (at_ : Int) (h : -1 ≤ at_) : -1 ≤ (l4T s at_).2 ∧ (l4T s at_).2 ≤ s.length := by
  have := l4V_range s 1 at_ h (Or.inr (by omega))
  unfold l4T
  split
  · exact ⟨Int.le_refl _, by show (-1 : Int) ≤ _; omega⟩
  · exact ⟨by show (-1 : Int) ≤ _ + _; omega, by show _ + _ ≤ _; omega⟩
theorem l4T_ge (s : List UInt8) (at_ : Int) : (l4T s at_).2 < 0 ∨ at_ ≤ (l4T s at_).2 := by
  unfold l4T
  split
  · exact Or.inl (by decide)
  · rename_i h
    have hk : at_ ≤ (l4V s 1 at_).2 := by
      by_cases hb : at_ < 0 ∨ at_ > s.length
      · rw [l4V_bad s 0 _ hb] at h
        exact absurd (Or.inl (by decide)) h
      · by_cases h0 : (readVarF (s.drop at_.toNat)).2 = 0
        · rw [l4V_zero s 0 _ hb h0] at h
          exact absurd (Or.inl (by decide)) h
        · rw [l4V_next s 0 _ hb h0]
          show at_ ≤ at_ + _
          omega
    right
    show at_ ≤ _ + _
    omega

set_option maxRecDepth 100000 in
set_option maxHeartbeats 800000 in
theorem l4Take_any (s : List UInt8) (at_ : Int) (w : World) (h63 : (s.length : Int) ≤ 4611686018427387904) (hat : -1 ≤ at_ ∧ at_ ≤ 4611686018427387910) :
    Calls Try.prog 69 #[.string (bs s), .int .i64 at_] w fun e w' => e = .returned (.tuple #[.string (bs (l4T s at_).1), .int .i64 (l4T s at_).2]) ∧ Below w.heap.size w w' := by
  have hr := l4V_range s 1 at_ hat.1 (Or.inr (by omega))
  obtain ⟨hl1, hl2, hl3⟩ := l4V_len s 1 at_
  have hT1 := @l4T_1 s at_
  have hT2 := @l4T_2 s at_
  have hT3 := @l4T_3 s at_
  generalize hR : l4V s 1 at_ = R at *
  obtain ⟨L, k⟩ := R
  have HR := Lib.hid hR; clear hR
  simp only at hr hl1 hl2 hl3 hT1
  have hcall := l4Vars_any s at_ 1 w h63 hat (by omega)
  rw [HR.out] at hcall
  by_cases hk : k < 0
  · have hT := hT1 hk
    have HT := Lib.hid hT; clear hT hl1 hl2 hl3 hT1 hT2 hT3
    have HC := Lib.hid hcall; clear hcall
    go_enter Try.func69, Try.ntmps69
    go_wp2_with fail
    refine HC.out.mono ?_; rintro e w1 ⟨v, rfl, hown, hb1⟩
    have HO := Lib.hid hown; clear hown
    have B1 := Lib.hid hb1; clear hb1
    go_wp2
    go_ret2
    exact ⟨ret_eq (by rw [HT.out]; rfl), B1.out⟩
  · have hlen : L.length = 1 := hl2 (by omega)
    obtain ⟨x, rfl⟩ : ∃ x, L = [x] := by
      match L, hlen with
      | [x], _ => exact ⟨x, rfl⟩
    have hx : x ≤ 562949953421311 := hl3 x (by simp)
    obtain ⟨K, rfl⟩ := Int.eq_ofNat_of_zero_le (show 0 ≤ k by omega)
    clear hl1 hl2 hl3 hlen hk
    have HC := Lib.hid hcall; clear hcall
    by_cases hbig : (x : Int) > s.length - (K : Int)
    · have hT := hT2 rfl hbig
      have HT := Lib.hid hT; clear hT hT1 hT2 hT3
      go_enter Try.func69, Try.ntmps69
      go_wp2_with fail
      refine HC.out.mono ?_; rintro e w1 ⟨v, rfl, hown, hb1⟩
      obtain ⟨g, c, rfl, hg1, hg2⟩ := own_form hown (by simp)
      have hc := hown.cellAt 0 (by simp)
      simp only [List.map_cons, List.map_nil, List.getElem?_cons_zero, natv] at hc
      have HO := Lib.hid hown; clear hown
      have B1 := Lib.hid hb1; clear hb1
      go_wp2
      go_ret2
      exact ⟨ret_eq (by rw [HT.out]; rfl), B1.out⟩
    · have hT := hT3 rfl hbig
      have HT := Lib.hid hT; clear hT hT1 hT2 hT3
      go_enter Try.func69, Try.ntmps69
      go_wp2_with fail
      refine HC.out.mono ?_; rintro e w1 ⟨v, rfl, hown, hb1⟩
      obtain ⟨g, c, rfl, hg1, hg2⟩ := own_form hown (by simp)
      have hc := hown.cellAt 0 (by simp)
      simp only [List.map_cons, List.map_nil, List.getElem?_cons_zero, natv] at hc
      have HO := Lib.hid hown; clear hown
      have B1 := Lib.hid hb1; clear hb1
      have hc1 : (0 : Int) ≤ (K : Int) ∧ (K : Int) ≤ (K : Int) + (x : Int) ∧ (K : Int) + (x : Int) ≤ (s.length : Int) := by omega
      go_wp2
      refine wp_region_x 15 [0, 1, 2, 3, 4, 5, 6, 7, 8, 9, 10, 11, 12, 13, 14] (by kernel_rfl) (by kernel_rfl) ?_
      iterate 15 (refine wpX_quiet rfl (by kernel_rfl) rfl ?_; go_wp2; refine ⟨rfl, ?_⟩)
      refine wpX_nil ?_
      simp only [List.drop_succ_cons, List.drop_zero]
      go_wp2
      go_ret2
      refine ⟨ret_eq (by rw [HT.out]; try simp), B1.out.drew⟩

/-- what the reference's Unframe asks at a place is what the program's frameAt asks there -/
theorem l4T_frame (s : List UInt8) (A : Nat) (hA : A ≤ s.length) :
    (frame1 (s.drop A) = none ∧ ((l4T s ((A : Int) + 4)).2 < 0 ∨ frameL (l4T s ((A : Int) + 4)).1 = [] ∨ frameL (l4T s ((A : Int) + 4)).1 ≠ (s.drop A).take ((l4T s ((A : Int) + 4)).2.toNat - A))) ∨
    (frame1 (s.drop A) = some (l4T s ((A : Int) + 4)).1 ∧ 0 ≤ (l4T s ((A : Int) + 4)).2 ∧ (l4T s ((A : Int) + 4)).2 = (A : Int) + (frameL (l4T s ((A : Int) + 4)).1).length ∧ frameL (l4T s ((A : Int) + 4)).1 ≠ [] ∧
      frameL (l4T s ((A : Int) + 4)).1 = (s.drop A).take ((l4T s ((A : Int) + 4)).2.toNat - A) ∧ (l4T s ((A : Int) + 4)).2 ≤ s.length) := by
  have neg : (l4T s ((A : Int) + 4)).2 = -1 → (scanText ((s.drop A).drop 4) false).2.2 = true → (frame1 (s.drop A) = none ∧ ((l4T s ((A : Int) + 4)).2 < 0 ∨ frameL (l4T s ((A : Int) + 4)).1 = [] ∨ frameL (l4T s ((A : Int) + 4)).1 ≠ (s.drop A).take ((l4T s ((A : Int) + 4)).2.toNat - A))) := fun h1 h2 => by
    refine ⟨?_, Or.inl (by omega)⟩
    unfold frame1
    split
    · rfl
    · have : frameBad (s.drop A) = true := by unfold frameBad; rw [h2]; simp
      rw [if_pos this]
  have hdd : (s.drop A).drop 4 = s.drop (A + 4) := List.drop_drop
  by_cases hlen : (A : Int) + 4 > s.length
  · refine Or.inl (neg ?_ ?_)
    · rw [l4T_1 (by rw [l4V_bad s 0 _ (Or.inr hlen)]; decide)]
    · rw [hdd, List.drop_of_length_le (by omega)]
      rfl
  · have hnb : ¬ ((A : Int) + 4 < 0 ∨ (A : Int) + 4 > s.length) := by omega
    have htn : ((A : Int) + 4).toNat = A + 4 := by omega
    by_cases h0 : (readVarF (s.drop (A + 4))).2 = 0
    · refine Or.inl (neg ?_ ?_)
      · rw [l4T_1 (by rw [l4V_zero s 0 _ hnb (by rw [htn]; exact h0)]; decide)]
      · rw [hdd]
        simp [scanText, scanNum, h0, scanCut]
    · have hv : l4V s 1 ((A : Int) + 4) = ([(readVarF (s.drop (A + 4))).1], (A : Int) + 4 + (readVarF (s.drop (A + 4))).2) := by
        rw [l4V_next s 0 _ hnb (by rw [htn]; exact h0), htn]
        rfl
      have hhit := readVarF_hit (s.drop (A + 4)) h0
      have hle := readVarF_le (s.drop (A + 4))
      have hdr := readVarF_drop s (A + 4) (by omega)
      have hsn : scanNum (s.drop (A + 4)) false = ((readVarF (s.drop (A + 4))).1, (s.drop (A + 4)).drop (readVarF (s.drop (A + 4))).2, false) := by
        rw [scanNum, if_neg (by simp [h0])]
      have hT2 := @l4T_2 s ((A : Int) + 4) (readVarF (s.drop (A + 4))).1 (A + 4 + (readVarF (s.drop (A + 4))).2) (by rw [hv]; congr 1)
      have hT3 := @l4T_3 s ((A : Int) + 4) (readVarF (s.drop (A + 4))).1 (A + 4 + (readVarF (s.drop (A + 4))).2) (by rw [hv]; congr 1)
      have hS : scanText ((s.drop A).drop 4) false = scanCut (s.drop (A + 4 + (readVarF (s.drop (A + 4))).2)) false ((readVarF (s.drop (A + 4))).1 : Int) := by
        rw [hdd, scanText, hsn]
        simp only [List.drop_drop]
      generalize hrr : readVarF (s.drop (A + 4)) = r at *
      obtain ⟨n, k⟩ := r
      simp only at *
      by_cases hbig : (n : Int) > s.length - ((A + 4 + k : Nat) : Int)
      · have hT := hT2 hbig
        refine Or.inl (neg (by rw [hT]) ?_)
        rw [hS, scanCut, if_pos (Or.inr (by rw [List.length_drop]; omega))]
      · have hT := hT3 hbig
        rw [scanCut, if_neg (by rw [List.length_drop]; simp; omega)] at hS
        simp only [Int.toNat_natCast] at hS
        rw [hT]
        simp only
        generalize ht : (s.drop (A + 4 + k)).take n = t at *
        have htl : t.length = n := by rw [← ht, List.length_take, List.length_drop]; omega
        have hto : (((A + 4 + k : Nat) : Int) + n).toNat - A = 4 + k + n := by omega
        rw [hto]
        have hvl : (varF (t.length : Int)).length = k := by
          rw [htl, hhit, List.length_take, List.length_drop]; omega
        have hfb : frameBad (s.drop A) = ((frameL t).isEmpty || decide ((s.drop A).length < (frameL t).length) || !((s.drop A).take (frameL t).length == frameL t)) := by
          unfold frameBad
          rw [hS]
          simp
        by_cases he : frameL t = []
        · left
          refine ⟨?_, Or.inr (Or.inl he)⟩
          unfold frame1
          split
          · rfl
          · rw [if_pos (by rw [hfb, he]; rfl)]
        · obtain ⟨h200, hge⟩ := frameL_ne he
          have hFl : (frameL t).length = 4 + k + n := by rw [frameL_length h200, hvl, htl]
          have hne : (frameL t).isEmpty = false := by cases hx : frameL t with
            | nil => exact absurd hx he
            | cons _ _ => rfl
          have hlt : decide ((s.drop A).length < (frameL t).length) = false := by rw [hFl, List.length_drop]; exact decide_eq_false (by omega)
          by_cases heq : frameL t = (s.drop A).take (4 + k + n)
          · right
            refine ⟨?_, by omega, by rw [hFl]; omega, he, heq, by omega⟩
            unfold frame1
            rw [if_neg (by rw [List.length_drop]; omega), hfb, hne, hlt, hFl, ← heq, hS, beq_self_eq_true]
            rfl
          · left
            refine ⟨?_, Or.inr (Or.inr heq)⟩
            unfold frame1
            split
            · rfl
            · rw [if_pos]
              rw [hfb, hFl]
              have : ((s.drop A).take (4 + k + n) == frameL t) = false := by simpa using fun h => heq h.symm
              rw [this]
              simp
theorem unframeL_eq (s : List UInt8) : unframeL s = unfr (s.length + 1) s := rfl
attribute [local irreducible] frameL l4T unfr unframeL

set_option maxRecDepth 100000 in
set_option maxHeartbeats 4000000 in
theorem sUnframe_any (s : List UInt8) (w : World) (h63 : s.length ≤ 1099511627776) :
    Calls Try.prog 86 #[.string (bs s)] w fun e w' => ∃ v, e = .returned (.tuple #[v, .int .i64 ((unframeL s).2 : Int)]) ∧ w'.ownsRow w.heap.size 9 1 v (unframeL s).1.length ((unframeL s).1.map strv) ∧ Below w.heap.size w w' := by
  obtain ⟨T, hT⟩ : ∃ T, T = unframeL s := ⟨_, rfl⟩
  rw [← hT]
  have HT := Lib.hid hT; clear hT
  go_enter Try.func86, Try.ntmps86
  go_wp2
  go_loopw [4, 5] (fun v aa wr => ∃ (A f : Nat) (acc : List (List UInt8)), A ≤ s.length ∧ s.length - A < f ∧ aa = .int .i64 (A : Int) ∧ acc.length ≤ A ∧ acc ++ (unfr f (s.drop A)).1 = T.1 ∧ A + (unfr f (s.drop A)).2 = T.2 ∧ wr.ownsRow w.heap.size 9 1 v acc.length (acc.map strv) ∧ Below w.heap.size w wr) (fun _ aa _ => s.length - (intOf aa).toNat)
  case atStart =>
    exact ⟨0, s.length + 1, [], Nat.zero_le _, by omega, rfl, Nat.le_refl _, by rw [HT.out, unframeL_eq, List.nil_append, List.drop_zero], by rw [HT.out, Nat.zero_add, unframeL_eq, List.drop_zero], World.ownsRow_made w #[] 0 (Nat.le_refl _) (by simp [maxLen]) rfl, (Below.refl _ _).alloc (Nat.le_refl _) _⟩
  case round =>
    obtain ⟨A, f, acc, hA, hf, rfl, hacl, he1, he2, hown, hbel⟩ := hrel
    obtain ⟨f, rfl⟩ : ∃ f', f = f' + 1 := ⟨f - 1, by omega⟩
    have H1 := Lib.hid hown; clear hown
    have H2 := Lib.hid hbel; clear hbel
    have hcase := l4T_frame s A hA
    have hlen := l4T_len s ((A : Int) + 4)
    have hrg := l4T_range s ((A : Int) + 4) (by omega)
    have hge := l4T_ge s ((A : Int) + 4)
    have hcall := fun W => l4Take_any s ((A : Int) + 4) W (by omega) ⟨by omega, by omega⟩
    generalize hR : l4T s ((A : Int) + 4) = R at *
    obtain ⟨t, E⟩ := R
    have HR := Lib.hid hR; clear hR
    have HC := Lib.hid hcall; clear hcall
    simp only at hcase hlen hrg hge
    rcases hcase with ⟨hfr, hcase⟩ | ⟨hfr, hE0, hE, hne, heq, hEs⟩
    · rw [unfr_none hfr] at he1 he2
      have h1 : acc = T.1 := by simpa using he1
      have h2 : A = T.2 := by simpa using he2
      have H3 := Lib.hid h1; clear h1 he1
      have H4 := Lib.hid h2; clear h2 he2
      clear hfr
      by_cases hneg : E < 0
      · clear hcase hge
        go_wp2_with fail
        refine (HC.out _).mono ?_; rintro e w1 ⟨rfl, hb1⟩
        have B1 := Lib.hid hb1; clear hb1
        go_wp2_with fail
        refine wp_region_x 16 [0, 1, 2, 3, 4, 5, 6, 7, 8, 10, 11, 12, 13, 9, 14, 15] (by kernel_rfl) (by kernel_rfl) ?_
        iterate 16 (first | (refine wpX_skip rfl rfl ?_) | (refine wpX_quiet rfl (by kernel_rfl) rfl ?_; go_wp2; refine ⟨rfl, ?_⟩))
        refine wpX_nil ?_
        simp only [List.drop_succ_cons, List.drop_zero]
        go_wp2
        go_ret2
        exact ⟨u4, ret_eq (by rw [← H4.out]; rfl), by rw [← H3.out]; exact (H1.out.kept (only_of_below B1.out none) (by cases u4.ownBlock <;> simp)).drew, (H2.out.trans (B1.out.mono H2.out.size)).drew⟩
      · have hAE : (A : Int) ≤ E := by omega
        have hE0 : 0 ≤ E := by omega
        clear hge
        obtain ⟨N, rfl⟩ := Int.eq_ofNat_of_zero_le hE0
        rw [Int.toNat_natCast] at hcase
        generalize hF : frameL t = F at *
        have HF := Lib.hid hF; clear hF
        by_cases hemp : F = []
        · have hF1 : F.isEmpty = true := by rw [hemp]; rfl
          have hF2 : (F == []) = true := by rw [hemp]; rfl
          clear hcase hemp
          go_wp2_with fail
          refine (HC.out _).mono ?_; rintro e w1 ⟨rfl, hb1⟩
          have hbel := H2.out.trans (hb1.mono H2.out.size)
          have hown := H1.out.kept (only_of_below hb1 none) (by cases u4.ownBlock <;> simp)
          have H5 := Lib.hid hown; clear hown
          have H6 := Lib.hid hbel; clear hbel hb1
          go_wp2_with fail
          refine wp_region_x 16 [0, 1, 2, 3, 4, 5, 6, 7, 8, 10, 11, 12, 13, 9, 14, 15] (by kernel_rfl) (by kernel_rfl) ?_
          iterate 4 (first | (refine wpX_skip rfl rfl ?_) | (refine wpX_quiet rfl (by kernel_rfl) rfl ?_; go_wp2; refine ⟨rfl, ?_⟩))
          refine wpX_actor rfl (by kernel_rfl) ?_
          go_wp2_with fail
          refine (sFrame_any t _ (by omega)).mono ?_; rintro e w2 ⟨rfl, hb2⟩
          rw [HF.out]
          have B2 := Lib.hid hb2; clear hb2
          go_wp2
          refine ⟨Ext.of_below B2.out, ?_⟩
          iterate 11 (first | (refine wpX_skip rfl rfl ?_) | (refine wpX_quiet rfl (by kernel_rfl) rfl ?_; go_wp2; refine ⟨rfl, ?_⟩))
          refine wpX_nil ?_
          simp only [List.drop_succ_cons, List.drop_zero]
          go_wp2
          go_ret2
          exact ⟨u4, ret_eq (by rw [← H4.out]; rfl), by rw [← H3.out]; exact H5.out.drew.kept (only_of_below B2.out none) (by cases u4.ownBlock <;> simp), H6.out.drew.trans (B2.out.mono H6.out.size)⟩
        · have hF1 : F.isEmpty = false := by simpa using hemp
          have hF2 : (F == []) = false := by simpa using hemp
          have hneq : F ≠ (s.drop A).take (N - A) := by
            rcases hcase with h | h | h
            · omega
            · exact absurd h hemp
            · exact h
          have hF3 : (F == (s.drop A).take (N - A)) = false := by simpa using hneq
          clear hcase hneq hemp
          go_wp2_with fail
          refine (HC.out _).mono ?_; rintro e w1 ⟨rfl, hb1⟩
          have hbel := H2.out.trans (hb1.mono H2.out.size)
          have hown := H1.out.kept (only_of_below hb1 none) (by cases u4.ownBlock <;> simp)
          have H5 := Lib.hid hown; clear hown
          have H6 := Lib.hid hbel; clear hbel hb1
          go_wp2_with fail
          refine wp_region_x 16 [0, 1, 2, 3, 4, 5, 6, 7, 8, 10, 11, 12, 13, 9, 14, 15] (by kernel_rfl) (by kernel_rfl) ?_
          iterate 4 (first | (refine wpX_skip rfl rfl ?_) | (refine wpX_quiet rfl (by kernel_rfl) rfl ?_; go_wp2; refine ⟨rfl, ?_⟩))
          refine wpX_actor rfl (by kernel_rfl) ?_
          go_wp2_with fail
          refine (sFrame_any t _ (by omega)).mono ?_; rintro e w2 ⟨rfl, hb2⟩
          rw [HF.out]
          have B2 := Lib.hid hb2; clear hb2
          go_wp2
          refine ⟨Ext.of_below B2.out, ?_⟩
          iterate 8 (first | (refine wpX_skip rfl rfl ?_) | (refine wpX_quiet rfl (by kernel_rfl) rfl ?_; go_wp2; refine ⟨rfl, ?_⟩))
          refine wpX_actor rfl (by kernel_rfl) ?_
          go_wp2_with fail
          refine (sFrame_any t _ (by omega)).mono ?_; rintro e w3 ⟨rfl, hb3⟩
          rw [HF.out]
          have B3 := Lib.hid hb3; clear hb3
          go_wp2
          refine ⟨Ext.of_below B3.out, ?_⟩
          iterate 2 (first | (refine wpX_skip rfl rfl ?_) | (refine wpX_quiet rfl (by kernel_rfl) rfl ?_; go_wp2; refine ⟨rfl, ?_⟩))
          refine wpX_nil ?_
          simp only [List.drop_succ_cons, List.drop_zero]
          go_wp2
          go_ret2
          have B23 := B2.out.trans (B3.out.mono B2.out.size)
          exact ⟨u4, ret_eq (by rw [← H4.out]; rfl), by rw [← H3.out]; exact H5.out.drew.kept (only_of_below B23 none) (by cases u4.ownBlock <;> simp), H6.out.drew.trans (B23.mono H6.out.size)⟩
    · obtain ⟨N, rfl⟩ := Int.eq_ofNat_of_zero_le hE0
      obtain ⟨ht200, hge5⟩ := frameL_ne hne
      rw [unfr_some hfr] at he1 he2
      have hdr : (s.drop A).drop (frameL t).length = s.drop (A + (frameL t).length) := List.drop_drop
      rw [hdr] at he1 he2
      rw [Int.toNat_natCast] at heq
      clear hfr hge
      generalize hF : frameL t = F at *
      have HF := Lib.hid hF; clear hF hdr
      have hNA : N = A + F.length := by omega
      have h1 : (acc ++ [t]) ++ (unfr f (s.drop (A + F.length))).1 = T.1 := by rw [← he1, List.append_assoc]; rfl
      have h2 : (A + F.length) + (unfr f (s.drop (A + F.length))).2 = T.2 := by rw [← he2]; omega
      rw [← hNA] at h1 h2
      have H3 := Lib.hid h1; clear h1 he1
      have H4 := Lib.hid h2; clear h2 he2
      have hF1 : F.isEmpty = false := by simpa using hne
      have hF2 : (F == []) = false := by simpa using hne
      have hF3 : (F == (s.drop A).take (N - A)) = true := by simpa using heq
      have hAN : A + 5 ≤ N := by omega
      have hNs : N ≤ s.length := by omega
      clear hne heq hE hNA hge5
      go_wp2_with fail
      refine (HC.out _).mono ?_; rintro e w1 ⟨rfl, hb1⟩
      have hbel := H2.out.trans (hb1.mono H2.out.size)
      have hown := H1.out.kept (only_of_below hb1 none) (by cases u4.ownBlock <;> simp)
      have H5 := Lib.hid hown; clear hown
      have H6 := Lib.hid hbel; clear hbel hb1
      go_wp2_with fail
      refine wp_region_x 16 [0, 1, 2, 3, 4, 5, 6, 7, 8, 10, 11, 12, 13, 9, 14, 15] (by kernel_rfl) (by kernel_rfl) ?_
      iterate 4 (first | (refine wpX_skip rfl rfl ?_) | (refine wpX_quiet rfl (by kernel_rfl) rfl ?_; go_wp2; refine ⟨rfl, ?_⟩))
      refine wpX_actor rfl (by kernel_rfl) ?_
      go_wp2_with fail
      refine (sFrame_any t _ (by omega)).mono ?_; rintro e w2 ⟨rfl, hb2⟩
      rw [HF.out]
      have B2 := Lib.hid hb2; clear hb2
      go_wp2
      refine ⟨Ext.of_below B2.out, ?_⟩
      iterate 8 (first | (refine wpX_skip rfl rfl ?_) | (refine wpX_quiet rfl (by kernel_rfl) rfl ?_; go_wp2; refine ⟨rfl, ?_⟩))
      refine wpX_actor rfl (by kernel_rfl) ?_
      go_wp2_with fail
      refine (sFrame_any t _ (by omega)).mono ?_; rintro e w3 ⟨rfl, hb3⟩
      rw [HF.out]
      have B3 := Lib.hid hb3; clear hb3
      go_wp2
      refine ⟨Ext.of_below B3.out, ?_⟩
      iterate 2 (first | (refine wpX_skip rfl rfl ?_) | (refine wpX_quiet rfl (by kernel_rfl) rfl ?_; go_wp2; refine ⟨rfl, ?_⟩))
      refine wpX_nil ?_
      simp only [List.drop_succ_cons, List.drop_zero]
      have B23 := B2.out.trans (B3.out.mono B2.out.size)
      have hown7 := H5.out.drew.kept (only_of_below B23 none) (by cases u4.ownBlock <;> simp)
      have hbel8 := H6.out.drew.trans (B23.mono H6.out.size)
      have H7 := Lib.hid hown7; clear hown7
      have H8 := Lib.hid hbel8; clear hbel8 B23
      go_wp2_with (at_builtin; refine wpList_app E_str _ rfl (.tmp 34) (.tmp 36) rfl w.heap.size u4 acc.length _ rfl (H7.out.alloc _) _ _ _ _ rfl (Reads.new rfl) (one1 rfl) (by omega) (Nat.le_trans H8.out.size (by simp)) ?_; intro v1 w4 hown1 hg1 hat1)
      have hbel9 := (H8.out.alloc H8.out.size _).grown hg1 (Nat.le_trans H8.out.size (by simp)) (fun g hg => (H7.out.lt g hg).1)
      exact ⟨⟨N, f, acc ++ [t], by omega, by omega, rfl, by rw [List.length_append]; simp; omega, H3.out, H4.out, own_snocS t hown1, hbel9⟩, by simp only [intOf]; omega⟩

end Go.Proofs.Ytifdkjddiohahaa
