/-
  Unframe (impl and spec) as one plain function. Conditions: a string of at most 2^40 bytes.
-/
import Derived.Test.YtifdkjddiohahaaScan
namespace Go.Proofs.Ytifdkjddiohahaa
open Go.RowKit

theorem readVarF_hit (l : List UInt8) (h : ¬ (readVarF l).2 = 0) : varF ((readVarF l).1 : Int) = l.take (readVarF l).2 := by
  have : ∀ f k, ¬ (rvFrom l f k).2 = 0 → varF ((rvFrom l f k).1 : Int) = l.take (rvFrom l f k).2 := by
    intro f
    induction f with
    | zero => intro k hk; simp [rvFrom] at hk
    | succ f ih =>
      intro k hk
      rw [rvFrom] at hk ⊢
      split at hk
      · rename_i h1
        rw [if_pos h1]
        split at hk
        · rename_i h2
          rw [if_pos h2]
          exact of_decide_eq_true h2
        · rename_i h2
          rw [if_neg h2]
          exact ih _ hk
      · simp at hk
  exact this 7 1 h
def frameBad (s : List UInt8) : Bool :=
  (scanText (s.drop 4) false).2.2 || (frameL (scanText (s.drop 4) false).1).isEmpty || decide (s.length < (frameL (scanText (s.drop 4) false).1).length) || !(s.take (frameL (scanText (s.drop 4) false).1).length == frameL (scanText (s.drop 4) false).1)
def frame1 (s : List UInt8) : Option (List UInt8) := if s.length < 5 then none else if frameBad s then none else some (scanText (s.drop 4) false).1
theorem frame1_some {s t : List UInt8} (h : frame1 s = some t) : t = (scanText (s.drop 4) false).1 ∧ 5 ≤ s.length ∧ frameL t ≠ [] ∧ (frameL t).length ≤ s.length ∧ s.take (frameL t).length = frameL t := by
  unfold frame1 at h
  split at h
  · cases h
  · rename_i h5
    split at h
    · cases h
    · rename_i hb
      injection h with h
      subst h
      simp only [frameBad, Bool.or_eq_true, Bool.not_eq_true', not_or, Bool.not_eq_true, decide_eq_true_eq, beq_eq_false_iff_ne, ne_eq] at hb
      obtain ⟨⟨⟨h1, h2⟩, h3⟩, h4⟩ := hb
      refine ⟨rfl, by omega, ?_, by omega, ?_⟩
      · intro he
        rw [he] at h2
        simp at h2
      · exact Classical.not_not.1 (by simpa using h4)
theorem frameL_ne {t : List UInt8} (h : frameL t ≠ []) : t.length ≤ 200 ∧ 5 ≤ (frameL t).length := by
  by_cases h2 : t.length ≤ 200
  · refine ⟨h2, ?_⟩
    rw [frameL_length h2]
    have hv : 0 < (varF (t.length : Int)).length := by
      rw [varF_nat (by omega)]
      obtain ⟨xs, b, he, _⟩ := varL_shape t.length
      rw [he]; simp
    omega
  · exact absurd (by rw [frameL, if_neg h2]) h
def unfr : Nat → List UInt8 → List (List UInt8) × Nat
  | 0, _ => ([], 0)
  | f + 1, s => match frame1 s with
    | none => ([], 0)
    | some t => (t :: (unfr f (s.drop (frameL t).length)).1, (frameL t).length + (unfr f (s.drop (frameL t).length)).2)
theorem unfr_none {f : Nat} {s : List UInt8} (h : frame1 s = none) : unfr (f + 1) s = ([], 0) := by rw [unfr, h]
theorem unfr_some {f : Nat} {s t : List UInt8} (h : frame1 s = some t) : unfr (f + 1) s = (t :: (unfr f (s.drop (frameL t).length)).1, (frameL t).length + (unfr f (s.drop (frameL t).length)).2) := by rw [unfr, h]
def unframeL (s : List UInt8) : List (List UInt8) × Nat := unfr (s.length + 1) s
def strv (l : List UInt8) : Value := .string (bs l)
theorem own_snocS {w : World} {base : Nat} {e : TypeId} {v : Value} {acc : List (List UInt8)} (x : List UInt8) (h : w.ownsRow base e 1 v (acc.length + 1) (acc.map strv ++ #[Value.string (bs x)].toList)) :
    w.ownsRow base e 1 v (acc ++ [x]).length ((acc ++ [x]).map strv) := by
  rw [List.map_append, List.length_append]
  exact h
theorem own_form {w : World} {base : Nat} {e : TypeId} {size : Nat} {v : Value} {n : Nat} {xs : List Value} (h : w.ownsRow base e size v n xs) (hn : 0 < n) : ∃ g c, v = .slice (some ⟨g, 0, none⟩) n c ∧ base ≤ g ∧ g < w.heap.size := by
  rcases h.2 with ⟨_, h0⟩ | ⟨g, cap, cur, hv, hb, hg, _⟩
  · omega
  · exact ⟨g, cap, hv, hb, (Array.getElem?_eq_some_iff.1 hg).1⟩

theorem E_str : Elem Try.prog 22 9 (.string ⟨#[]⟩) 1 16 := ⟨Try.underlying22, by kernel_rfl, rfl, by decide, by decide⟩

theorem grown_below {a w w' : World} {B g : Nat} (hb : Below B a w) (hB : B ≤ w.heap.size) (hg : w.grownBy w' (some g)) (hgB : B ≤ g) : Below B a w' := hb.grown hg hB (fun k hk => by injection hk with hk; omega)
set_option maxRecDepth 100000 in
set_option maxHeartbeats 800000 in
theorem frameAt_any (s : List UInt8) (w : World) (h63 : (s.length : Int) ≤ 4611686018427387904) :
    Calls Try.prog 102 #[.string (bs s)] w fun e w' => e = .returned (.tuple #[.string (bs ((frame1 s).getD [])), .bool (frame1 s).isSome]) ∧ Below w.heap.size w w' := by
  by_cases h5 : s.length < 5
  · have hfin : frame1 s = none := by rw [frame1, if_pos h5]
    rw [hfin]
    clear hfin
    go_enter Try.func102, Try.ntmps102
    go_wp2
    go_ret2
    exact ⟨rfl, Below.refl _ _⟩
  · have hlen := scanText_len (s.drop 4) false
    have hdl : ((s.drop 4).length : Int) ≤ 9223372036854775807 := by rw [List.length_drop]; omega
    have hfr : frame1 s = if frameBad s then none else some (scanText (s.drop 4) false).1 := by rw [frame1, if_neg h5]
    have hbad : frameBad s = ((scanText (s.drop 4) false).2.2 || (frameL (scanText (s.drop 4) false).1).isEmpty || decide (s.length < (frameL (scanText (s.drop 4) false).1).length) || !(s.take (frameL (scanText (s.drop 4) false).1).length == frameL (scanText (s.drop 4) false).1)) := rfl
    have hsl : (scanText (s.drop 4) false).1.length ≤ s.length := by rw [List.length_drop] at hlen; omega
    generalize hr : scanText (s.drop 4) false = r at *
    obtain ⟨t, rest', bad'⟩ := r
    have HR := Lib.hid hr; clear hr
    simp only at hbad hfr hsl
    generalize hF : frameL t = F at *
    have HF := Lib.hid hF; clear hF hlen
    have HFR := Lib.hid hfr; clear hfr
    have HB := Lib.hid hbad; clear hbad
    go_enter Try.func102, Try.ntmps102
    go_wp2_with fail
    have hsc : ScanCell (w.alloc (.cells #[.string (bs (s.drop 4)), .bool false] 79)) w.heap.size (s.drop 4) false := heap_alloc_new w _
    refine (scanText_any _ (s.drop 4) false _ hdl hsc).mono ?_; rintro e w1 ⟨rfl, hs1, hg1⟩
    rw [HR.out] at hs1 ⊢
    simp only at hs1
    have hb1 : Below w.heap.size w w1 := grown_below ((Below.refl _ _).alloc (Nat.le_refl _) _) (by simp) hg1 (Nat.le_refl _)
    have HS1 := Lib.hid hs1; clear hs1 hsc
    have HB1 := Lib.hid hb1; clear hb1 hg1
    go_wp2_with fail
    refine (iFrame_any t _ (by omega)).mono ?_; rintro e w2 ⟨rfl, hb2⟩
    rw [HF.out]
    have hs2 := HS1.out.below hb2
    have c1 := hs2.c1
    have hbel := HB1.out.trans (hb2.mono HB1.out.size)
    have HBel := Lib.hid hbel; clear hbel hb2 hs2
    cases bad' with
    | true =>
      have hfin : frame1 s = none := by rw [HFR.out, HB.out]; rfl
      have HFin := Lib.hid hfin; clear hfin
      go_wp2
      go_ret2
      exact ⟨ret_eq (by rw [HFin.out]; rfl), HBel.out⟩
    | false =>
      by_cases hE : F.isEmpty = true
      · have hfin : frame1 s = none := by rw [HFR.out, HB.out, hE]; simp
        have HFin := Lib.hid hfin; clear hfin
        have hE2 : (F == []) = true := by simpa using hE
        have hE3 : F = [] := by simpa using hE
        subst hE3
        clear hE hE2
        go_wp2
        go_ret2
        exact ⟨ret_eq (by rw [HFin.out]; rfl), HBel.out⟩
      · have hE1 : F.isEmpty = false := by simpa using hE
        have hE2 : (F == []) = false := by simpa using hE
        by_cases hL : s.length < F.length
        · have hfin : frame1 s = none := by rw [HFR.out, HB.out, decide_eq_true hL]; simp
          have HFin := Lib.hid hfin; clear hfin
          clear hE
          go_wp2
          go_ret2
          exact ⟨ret_eq (by rw [HFin.out]; rfl), HBel.out⟩
        · have hL2 : decide (s.length < F.length) = false := decide_eq_false hL
          have hc1 : (0 : Int) ≤ (F.length : Int) ∧ (F.length : Int) ≤ (s.length : Int) := by omega
          by_cases hP : (s.take F.length == F) = true
          · have hfin : frame1 s = some t := by rw [HFR.out, HB.out, hE1, hL2, hP]; rfl
            have HFin := Lib.hid hfin; clear hfin
            clear hE
            go_wp2
            go_ret2
            exact ⟨ret_eq (by rw [HFin.out]; rfl), HBel.out⟩
          · have hP2 : (s.take F.length == F) = false := by simpa using hP
            have hfin : frame1 s = none := by rw [HFR.out, HB.out, hE1, hL2, hP2]; rfl
            have HFin := Lib.hid hfin; clear hfin
            clear hE hP
            go_wp2
            go_ret2
            exact ⟨ret_eq (by rw [HFin.out]; rfl), HBel.out⟩

set_option maxRecDepth 100000 in
set_option maxHeartbeats 800000 in
theorem iUnframe_any (s : List UInt8) (w : World) (h63 : s.length ≤ 1099511627776) :
    Calls Try.prog 85 #[.string (bs s)] w fun e w' => ∃ v, e = .returned (.tuple #[v, .int .i64 ((unframeL s).2 : Int)]) ∧ w'.ownsRow w.heap.size 9 1 v (unframeL s).1.length ((unframeL s).1.map strv) ∧ Below w.heap.size w w' := by
  obtain ⟨T, hT⟩ : ∃ T, T = unframeL s := ⟨_, rfl⟩
  rw [← hT]
  have HT := Lib.hid hT; clear hT
  go_enter Try.func85, Try.ntmps85
  go_wp2
  go_loopw [4, 5] (fun v aa wr => ∃ (A f : Nat) (acc : List (List UInt8)), A ≤ s.length ∧ s.length - A < f ∧ aa = .int .i64 (A : Int) ∧ acc.length ≤ A ∧ acc ++ (unfr f (s.drop A)).1 = T.1 ∧ A + (unfr f (s.drop A)).2 = T.2 ∧ wr.ownsRow w.heap.size 9 1 v acc.length (acc.map strv) ∧ Below w.heap.size w wr) (fun _ aa _ => s.length - (intOf aa).toNat)
  case atStart =>
    exact ⟨0, s.length + 1, [], Nat.zero_le _, by omega, rfl, Nat.le_refl _, by rw [HT.out]; rfl, by rw [HT.out, Nat.zero_add]; rfl, World.ownsRow_made w #[] 0 (Nat.le_refl _) (by simp [maxLen]) rfl, (Below.refl _ _).alloc (Nat.le_refl _) _⟩
  case round =>
    obtain ⟨A, f, acc, hA, hf, rfl, hacl, he1, he2, hown, hbel⟩ := hrel
    obtain ⟨f, rfl⟩ : ∃ f', f = f' + 1 := ⟨f - 1, by omega⟩
    have H1 := Lib.hid hown; clear hown
    have H2 := Lib.hid hbel; clear hbel
    have hdl : ((s.drop A).length : Int) ≤ 4611686018427387904 := by rw [List.length_drop]; omega
    have hc1 : (0 : Int) ≤ (A : Int) ∧ (A : Int) ≤ (s.length : Int) := by omega
    cases hfr : frame1 (s.drop A) with
    | none =>
      rw [unfr_none hfr] at he1 he2
      have h1 : acc = T.1 := by simpa using he1
      have h2 : A = T.2 := by simpa using he2
      have H3 := Lib.hid h1; clear h1 he1
      have H4 := Lib.hid h2; clear h2 he2
      have HF := Lib.hid hfr; clear hfr
      go_wp2_with fail
      refine (frameAt_any (s.drop A) _ hdl).mono ?_; rintro e w1 ⟨rfl, hb1⟩
      rw [HF.out]
      have B1 := Lib.hid hb1; clear hb1
      go_wp2
      go_ret2
      exact ⟨u4, ret_eq (by rw [← H4.out]; rfl), by rw [← H3.out]; exact H1.out.kept (only_of_below B1.out none) (by cases u4.ownBlock <;> simp), H2.out.trans (B1.out.mono H2.out.size)⟩
    | some t =>
      rw [unfr_some hfr] at he1 he2
      obtain ⟨ht, h5, hne, hle, _⟩ := frame1_some hfr
      obtain ⟨ht200, hge⟩ := frameL_ne hne
      rw [List.length_drop] at hle h5
      have hdr : (s.drop A).drop (frameL t).length = s.drop (A + (frameL t).length) := List.drop_drop
      rw [hdr] at he1 he2
      clear ht hne
      generalize hF : frameL t = F at *
      have HF := Lib.hid hF; clear hF hdr
      have h1 : (acc ++ [t]) ++ (unfr f (s.drop (A + F.length))).1 = T.1 := by rw [← he1, List.append_assoc]; rfl
      have h2 : (A + F.length) + (unfr f (s.drop (A + F.length))).2 = T.2 := by rw [← he2]; omega
      have H3 := Lib.hid h1; clear h1 he1
      have H4 := Lib.hid h2; clear h2 he2
      have HFr := Lib.hid hfr; clear hfr
      go_wp2_with fail
      refine (frameAt_any (s.drop A) _ hdl).mono ?_; rintro e w1 ⟨rfl, hb1⟩
      rw [HFr.out]
      have hown2 := H1.out.kept (only_of_below hb1 none) (by cases u4.ownBlock <;> simp)
      have hbel2 := H2.out.trans (hb1.mono H2.out.size)
      clear hb1
      have H5 := Lib.hid hown2; clear hown2
      have H6 := Lib.hid hbel2; clear hbel2
      simp only [Option.getD_some, Option.isSome_some]
      go_wp2_with (at_builtin; refine wpList_app E_str _ rfl (.tmp 20) (.tmp 22) rfl w.heap.size u4 acc.length _ rfl (H5.out.alloc _) _ _ _ _ rfl (Reads.new rfl) (one1 rfl) (by omega) (Nat.le_trans H6.out.size (by simp)) ?_; intro v1 w2 hown1 hg1 hat1; have hbel3 := (H6.out.alloc H6.out.size _).grown hg1 (Nat.le_trans H6.out.size (by simp)) (fun g hg => (H5.out.lt g hg).1); have hown3 := own_snocS t hown1; clear hown1 hg1 hat1; have H7 := Lib.hid hown3; clear hown3; have H8 := Lib.hid hbel3; clear hbel3)
      refine (iFrame_any t _ (by omega)).mono ?_; rintro e w3 ⟨rfl, hb3⟩
      rw [HF.out]
      have hown4 := H7.out.kept (only_of_below hb3 none) (by cases v1.ownBlock <;> simp)
      have hbel4 := H8.out.trans (hb3.mono H8.out.size)
      clear hb3
      have H9 := Lib.hid hown4; clear hown4
      have H10 := Lib.hid hbel4; clear hbel4
      go_wp2
      exact ⟨⟨A + F.length, f, acc ++ [t], by omega, by omega, by go_num, by rw [List.length_append]; simp; omega, H3.out, H4.out, H9.out, H10.out⟩, by simp only [intOf]; omega⟩

end Go.Proofs.Ytifdkjddiohahaa
