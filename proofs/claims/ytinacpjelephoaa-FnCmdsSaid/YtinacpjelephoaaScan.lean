/-
  The scanner's cut and text, and the reference's l4Vars and l4Take, as plain functions. Conditions: lengths are ints; a list read has at most 2^30 numbers.
-/
import Derived.Test.YtinacpjelephoaaFrame
namespace Go.Proofs.Ytinacpjelephoaa
open Go.RowKit

theorem scanNum_len (rest : List UInt8) (bad : Bool) : (scanNum rest bad).2.1.length ≤ rest.length ∧ (scanNum rest bad).1 ≤ 562949953421311 := by
  unfold scanNum
  split
  · exact ⟨Nat.le_refl _, by simp⟩
  · exact ⟨by simp, (readVarF_le rest).2.2⟩
def scanText (rest : List UInt8) (bad : Bool) : List UInt8 × List UInt8 × Bool := scanCut (scanNum rest bad).2.1 (scanNum rest bad).2.2 ((scanNum rest bad).1 : Int)
theorem scanCut_len (rest : List UInt8) (bad : Bool) (n : Int) : (scanCut rest bad n).2.1.length ≤ rest.length ∧ (scanCut rest bad n).1.length ≤ rest.length := by
  unfold scanCut
  split
  · exact ⟨Nat.le_refl _, by simp⟩
  · exact ⟨by simp, by simp [List.length_take]; omega⟩
theorem scanText_len (rest : List UInt8) (bad : Bool) : (scanText rest bad).2.1.length ≤ rest.length ∧ (scanText rest bad).1.length ≤ rest.length := by
  have h1 := scanNum_len rest bad
  have h2 := scanCut_len (scanNum rest bad).2.1 (scanNum rest bad).2.2 ((scanNum rest bad).1 : Int)
  exact ⟨Nat.le_trans h2.1 h1.1, Nat.le_trans h2.2 h1.1⟩

set_option maxRecDepth 100000 in
set_option maxHeartbeats 400000 in
theorem scanCut_any (b : Nat) (rest : List UInt8) (bad : Bool) (n : Int) (w : World) (h63 : (rest.length : Int) ≤ 9223372036854775807) (hs : ScanCell w b rest bad) :
    Calls Try.prog 41 #[.pointer (some ⟨b, 0, none⟩), .int .i64 n] w fun e w' => e = .returned (.string (bs (scanCut rest bad n).1)) ∧ ScanCell w' b (scanCut rest bad n).2.1 (scanCut rest bad n).2.2 ∧ w.grownBy w' (some b) := by
  have c0 := hs.c0
  have c1 := hs.c1
  have f0 := hs.fr 0
  have f1 := hs.fr 1
  have HS := Lib.hid hs; clear hs
  cases hbb : bad with
  | true =>
    subst hbb
    have hfin : scanCut rest true n = ([], rest, true) := by rw [scanCut, if_pos (Or.inl rfl)]
    rw [hfin]
    clear hfin
    go_enter Try.func41, Try.ntmps41
    go_wp2_with fail
    go_ret
    exact ⟨rfl, HS.out.set1 true, only_setCell (World.grownBy.refl _ _) 1 _⟩
  | false =>
    subst hbb
    by_cases hn : 0 ≤ n ∧ n ≤ rest.length
    · have hfin : scanCut rest false n = (rest.take n.toNat, rest.drop n.toNat, false) := by rw [scanCut, if_neg (by simp; omega)]
      rw [hfin]
      clear hfin
      obtain ⟨k, rfl⟩ := Int.eq_ofNat_of_zero_le hn.1
      simp only [Int.toNat_natCast]
      go_enter Try.func41, Try.ntmps41
      go_wp2_with (go_at_call 32; refine (within_yes _ _ _ _ hn).mono ?_; rintro e w1 ⟨rfl, rfl⟩)
      go_ret
      exact ⟨rfl, HS.out.set0 _, only_setCell (World.grownBy.refl _ _) 0 _⟩
    · have hfin : scanCut rest false n = ([], rest, true) := by rw [scanCut, if_pos (Or.inr hn)]
      rw [hfin]
      clear hfin
      go_enter Try.func41, Try.ntmps41
      go_wp2_with (go_at_call 32; refine (within_no _ _ _ _ hn).mono ?_; rintro e w1 ⟨rfl, rfl⟩)
      go_ret
      exact ⟨rfl, HS.out.set1 true, only_setCell (World.grownBy.refl _ _) 1 _⟩
theorem only_trans {a b c : World} {r : Option Nat} (h : a.grownBy b r) (k : b.grownBy c r) : a.grownBy c r :=
  grownBy_trans_new h k (fun _ hg => Or.inl hg)
set_option maxHeartbeats 400000 in
theorem scanText_any (b : Nat) (rest : List UInt8) (bad : Bool) (w : World) (h63 : (rest.length : Int) ≤ 9223372036854775807) (hs : ScanCell w b rest bad) :
    Calls Try.prog 40 #[.pointer (some ⟨b, 0, none⟩)] w fun e w' => e = .returned (.string (bs (scanText rest bad).1)) ∧ ScanCell w' b (scanText rest bad).2.1 (scanText rest bad).2.2 ∧ w.grownBy w' (some b) := by
  have HS := Lib.hid hs; clear hs
  have hl := scanNum_len rest bad
  unfold scanText
  generalize hr : scanNum rest bad = r at *
  obtain ⟨n, rest', bad'⟩ := r
  have HR := Lib.hid hr; clear hr
  simp only at hl ⊢
  go_enter Try.func40, Try.ntmps40
  go_wp2_with fail
  refine (scanNum_any b rest bad _ h63 HS.out).mono ?_; rintro e w1 ⟨rfl, hs1, hg1⟩
  rw [HR.out] at hs1 ⊢
  simp only at hs1
  have HS1 := Lib.hid hs1; clear hs1
  have HG1 := Lib.hid hg1; clear hg1
  go_wp2_with fail
  refine (scanCut_any b rest' bad' (n : Int) _ (by omega) HS1.out).mono ?_; rintro e w2 ⟨rfl, hs2, hg2⟩
  have HS2 := Lib.hid hs2; clear hs2
  have HG2 := Lib.hid hg2; clear hg2
  go_wp2_with fail
  go_ret
  exact ⟨rfl, HS2.out, only_trans HG1.out HG2.out⟩

def l4V (s : List UInt8) : Nat → Int → List Nat × Int
  | 0, at_ => ([], at_)
  | n + 1, at_ => if at_ < 0 ∨ at_ > s.length then ([], -1) else
      if (readVarF (s.drop at_.toNat)).2 = 0 then ([], -1) else
        ((readVarF (s.drop at_.toNat)).1 :: (l4V s n (at_ + (readVarF (s.drop at_.toNat)).2)).1, (l4V s n (at_ + (readVarF (s.drop at_.toNat)).2)).2)
theorem l4V_bad (s : List UInt8) (n : Nat) (at_ : Int) (h : at_ < 0 ∨ at_ > s.length) : l4V s (n + 1) at_ = ([], -1) := by rw [l4V, if_pos h]
theorem l4V_zero (s : List UInt8) (n : Nat) (at_ : Int) (h : ¬ (at_ < 0 ∨ at_ > s.length)) (h2 : (readVarF (s.drop at_.toNat)).2 = 0) : l4V s (n + 1) at_ = ([], -1) := by rw [l4V, if_neg h, if_pos h2]
theorem l4V_next (s : List UInt8) (n : Nat) (at_ : Int) (h : ¬ (at_ < 0 ∨ at_ > s.length)) (h2 : ¬ (readVarF (s.drop at_.toNat)).2 = 0) :
    l4V s (n + 1) at_ = ((readVarF (s.drop at_.toNat)).1 :: (l4V s n (at_ + (readVarF (s.drop at_.toNat)).2)).1, (l4V s n (at_ + (readVarF (s.drop at_.toNat)).2)).2) := by
  rw [l4V, if_neg h, if_neg h2]
def natv (n : Nat) : Value := .int .i64 (n : Int)
theorem own_snocN {w : World} {base : Nat} {e : TypeId} {v : Value} {acc : List Nat} {x : Int} (h : w.ownsRow base e 1 v (acc.length + 1) (acc.map natv ++ #[Value.int .i64 x].toList)) (b : Nat) (hx : x = (b : Int)) :
    w.ownsRow base e 1 v (acc ++ [b]).length ((acc ++ [b]).map natv) := by
  subst hx
  rw [List.map_append, List.length_append]
  exact h
theorem readVarF_drop (s : List UInt8) (a : Nat) (h : a ≤ s.length) : a + (readVarF (s.drop a)).2 ≤ s.length := by
  have := (readVarF_le (s.drop a)).2.1
  rw [List.length_drop] at this
  omega
theorem l4V_range (s : List UInt8) : ∀ (n : Nat) (at_ : Int), -1 ≤ at_ → (at_ ≤ s.length ∨ 0 < n) → -1 ≤ (l4V s n at_).2 ∧ ((l4V s n at_).2 ≤ s.length)
  | 0, at_, h1, h2 => ⟨h1, by rw [l4V]; omega⟩
  | n + 1, at_, h1, h2 => by
    by_cases h : at_ < 0 ∨ at_ > s.length
    · rw [l4V_bad s n at_ h]; exact ⟨Int.le_refl _, by show (-1 : Int) ≤ _; omega⟩
    · by_cases h0 : (readVarF (s.drop at_.toNat)).2 = 0
      · rw [l4V_zero s n at_ h h0]; exact ⟨Int.le_refl _, by show (-1 : Int) ≤ _; omega⟩
      · rw [l4V_next s n at_ h h0]
        have := readVarF_drop s at_.toNat (by omega)
        exact l4V_range s n _ (by omega) (Or.inl (by omega))
theorem l4V_len (s : List UInt8) : ∀ (n : Nat) (at_ : Int), (l4V s n at_).1.length ≤ n ∧ (0 ≤ (l4V s n at_).2 → (l4V s n at_).1.length = n) ∧ ∀ x ∈ (l4V s n at_).1, x ≤ 562949953421311
  | 0, at_ => ⟨by simp [l4V], by simp [l4V], by simp [l4V]⟩
  | n + 1, at_ => by
    by_cases h : at_ < 0 ∨ at_ > s.length
    · rw [l4V_bad s n at_ h]; exact ⟨by simp, by intro h; simp at h, by simp⟩
    · by_cases h0 : (readVarF (s.drop at_.toNat)).2 = 0
      · rw [l4V_zero s n at_ h h0]; exact ⟨by simp, by intro h; simp at h, by simp⟩
      · rw [l4V_next s n at_ h h0]
        obtain ⟨a, b, c⟩ := l4V_len s n (at_ + (readVarF (s.drop at_.toNat)).2)
        refine ⟨by simp only [List.length_cons]; omega, fun hx => by simp only [List.length_cons]; have := b hx; omega, ?_⟩
        intro x hx
        rcases List.mem_cons.1 hx with rfl | hx
        · exact (readVarF_le _).2.2
        · exact c x hx

theorem E_int : Elem Try.prog 62 3 (.int .i64 0) 1 8 := ⟨Try.underlying62, by kernel_rfl, rfl, by decide, by decide⟩
set_option maxRecDepth 100000 in
set_option maxHeartbeats 800000 in
theorem l4Vars_any (s : List UInt8) (at_ : Int) (n : Nat) (w : World) (h63 : (s.length : Int) ≤ 4611686018427387904) (hat : -1 ≤ at_ ∧ at_ ≤ 4611686018427387910) (hn : n ≤ 1000) :
    Calls Try.prog 42 #[.string (bs s), .int .i64 at_, .int .i64 n] w fun e w' => ∃ v, e = .returned (.tuple #[v, .int .i64 (l4V s n at_).2]) ∧ w'.ownsRow w.heap.size 3 1 v (l4V s n at_).1.length ((l4V s n at_).1.map natv) ∧ Below w.heap.size w w' := by
  obtain ⟨T, hT⟩ : ∃ T, T = l4V s n at_ := ⟨_, rfl⟩
  rw [← hT]
  have HT := Lib.hid hT; clear hT
  go_enter Try.func42, Try.ntmps42
  go_wp2
  go_loopw [1, 8, 9] (fun aa v ii wr => ∃ (j : Nat) (a : Int) (acc : List Nat), j ≤ n ∧ acc.length = j ∧ ii = .int .i64 (j : Int) ∧ aa = .int .i64 a ∧ -1 ≤ a ∧ a ≤ 4611686018427387910 ∧ acc ++ (l4V s (n - j) a).1 = T.1 ∧ (l4V s (n - j) a).2 = T.2 ∧ wr.ownsRow w.heap.size 3 1 v acc.length (acc.map natv) ∧ Below w.heap.size w wr) (fun _ _ ii _ => n - (intOf ii).toNat)
  case atStart =>
    exact ⟨0, at_, [], Nat.zero_le _, rfl, rfl, rfl, hat.1, hat.2, by rw [HT.out]; rfl, by rw [HT.out]; rfl, World.ownsRow_made w #[] 0 (Nat.le_refl _) (by simp [maxLen]) rfl, (Below.refl _ _).alloc (Nat.le_refl _) _⟩
  case round =>
    obtain ⟨j, a, acc, hj, hacl, rfl, rfl, ha1, ha2, he1, he2, hown, hbel⟩ := hrel
    have H1 := Lib.hid hown; clear hown
    have H2 := Lib.hid hbel; clear hbel
    by_cases hlt : j < n
    · rw [show n - j = (n - j - 1) + 1 by omega] at he1 he2
      by_cases hbad : a < 0 ∨ a > s.length
      · rw [l4V_bad s _ a hbad] at he1 he2
        have h1 : acc = T.1 := by simpa using he1
        have h2 : -1 = T.2 := he2
        have H3 := Lib.hid h1; clear h1 he1
        have H4 := Lib.hid h2; clear h2 he2
        by_cases h0 : a < 0
        · clear hbad
          have hacl' := Lib.hid hacl; clear hacl
          go_wp2
          go_ret2
          exact ⟨u8, ret_eq (by rw [← H4.out]; rfl), by rw [← H3.out]; exact H1.out, H2.out⟩
        · have h1 : (s.length : Int) < a := by omega
          have hacl' := Lib.hid hacl; clear hacl
          clear hbad
          go_wp2
          go_ret2
          exact ⟨u8, ret_eq (by rw [← H4.out]; rfl), by rw [← H3.out]; exact H1.out, H2.out⟩
      · have ha3 : 0 ≤ a ∧ a ≤ (s.length : Int) := by omega
        obtain ⟨A, rfl⟩ := Int.eq_ofNat_of_zero_le ha3.1
        have hle := readVarF_le (s.drop A)
        have hdr := readVarF_drop s A (by omega)
        have hlen : ((s.drop A).length : Int) ≤ 9223372036854775807 := by rw [List.length_drop]; omega
        generalize hr : readVarF (s.drop A) = r at *
        obtain ⟨x, k⟩ := r
        have HR := Lib.hid hr; clear hr
        simp only at hle hdr
        by_cases hk0 : k = 0
        · rw [l4V_zero s _ _ hbad (by rw [Int.toNat_natCast, HR.out]; exact hk0)] at he1 he2
          have h1 : acc = T.1 := by simpa using he1
          have h2 : -1 = T.2 := he2
          have H3 := Lib.hid h1; clear h1 he1
          have H4 := Lib.hid h2; clear h2 he2
          have hkb : ((k : Int) == 0) = true := by rw [hk0]; rfl
          have hacl' := Lib.hid hacl; clear hacl
          clear hbad hk0
          go_wp2_with fail
          refine (sReadVar_any (s.drop A) _ hlen).mono ?_; rintro e w1 ⟨rfl, hb1⟩
          rw [HR.out]
          have B1 := Lib.hid hb1; clear hb1
          go_wp2_with fail
          go_ret2
          exact ⟨u8, ret_eq (by rw [← H4.out]; rfl), by rw [← H3.out]; exact H1.out.kept (only_of_below B1.out none) (by cases u8.ownBlock <;> simp), H2.out.trans (B1.out.mono H2.out.size)⟩
        · rw [l4V_next s _ _ hbad (by rw [Int.toNat_natCast, HR.out]; exact hk0)] at he1 he2
          rw [Int.toNat_natCast, HR.out] at he1 he2
          simp only at he1 he2
          have h1 : (acc ++ [x]) ++ (l4V s (n - (j + 1)) ((A : Int) + (k : Int))).1 = T.1 := by rw [← he1, List.append_assoc, show n - (j + 1) = n - j - 1 by omega]; rfl
          have h2 : (l4V s (n - (j + 1)) ((A : Int) + (k : Int))).2 = T.2 := by rw [← he2, show n - (j + 1) = n - j - 1 by omega]
          have H3 := Lib.hid h1; clear h1 he1
          have H4 := Lib.hid h2; clear h2 he2
          have hkb : ((k : Int) == 0) = false := by simp; omega
          have hal : acc.length ≤ 1000 := by omega
          have hacl' := Lib.hid hacl; clear hacl
          clear hbad hk0
          go_wp2_with fail
          refine (sReadVar_any (s.drop A) _ hlen).mono ?_; rintro e w1 ⟨rfl, hb1⟩
          rw [HR.out]
          have B1 := Lib.hid hb1; clear hb1
          have hown2 := H1.out.kept (only_of_below B1.out none) (by cases u8.ownBlock <;> simp)
          have H5 := Lib.hid hown2; clear hown2
          have hbel2 := H2.out.trans (B1.out.mono H2.out.size)
          have H6 := Lib.hid hbel2; clear hbel2
          go_wp2_with (at_builtin; refine wpList_app E_int _ rfl (.tmp 37) (.tmp 39) rfl w.heap.size u8 acc.length _ rfl (H5.out.alloc _) _ _ _ _ rfl (Reads.new rfl) (one1 rfl) (by omega) (Nat.le_trans H6.out.size (by simp)) ?_; intro v1 w2 hown1 hg1 hat1)
          exact ⟨⟨j + 1, (A : Int) + (k : Int), acc ++ [x], by omega, by rw [List.length_append, hacl'.out]; rfl, by go_num, rfl, by omega, by omega, H3.out, H4.out, own_snocN hown1 x rfl, ((H6.out.alloc H6.out.size _).grown hg1 (Nat.le_trans H6.out.size (by simp)) (fun g hg => (H5.out.lt g hg).1))⟩, by simp only [intOf]; omega⟩
    · have hjn : j = n := by omega
      subst hjn
      rw [Nat.sub_self] at he1 he2
      have h1 : acc = T.1 := by simpa [l4V] using he1
      have h2 : a = T.2 := he2
      have H3 := Lib.hid h1; clear h1 he1
      have H4 := Lib.hid h2; clear h2 he2
      have hacl' := Lib.hid hacl; clear hacl
      go_wp2
      go_ret2
      exact ⟨u8, ret_eq (by rw [← H4.out]; rfl), by rw [← H3.out]; exact H1.out, H2.out⟩

end Go.Proofs.Ytinacpjelephoaa
