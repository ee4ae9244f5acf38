/-
  The laws' helpers sz*: how great an argument is. Conditions: the bounds that the form gives each argument.
-/
import Derived.Test.YtmhbfeglnhangaaDoorTy
import Derived.Test.YtmhbfeglnhangaaDoorStrs
namespace Go.Proofs.YtmhbfeglnhangaaDoor
open Go.RowKit

theorem i64_eq {a b : Int} (h : a = b) : Value.int .i64 a = .int .i64 b := by rw [h]
theorem cat_wt0 {α : Type} {f : α → Cs} (h : ∀ x, (f x).wt = 0) : ∀ xs : List α, (cat f xs).wt = 0
  | [] => rfl
  | x :: xs => by rw [cat_cons, Cs.wt_app, h, cat_wt0 h xs]












































































































































































































































































































set_option maxRecDepth 100000 in
set_option maxHeartbeats 1000000 in
theorem szBlob_z (x : BlobD) (left : Int) (cs : List Value) (w : World) (h0 : 0 ≤ left) (h1 : left ≤ 4611686018427387904) (hok : x.c.ok) (h : Rep anyB w x.c cs) :
    Calls Tryd.prog 42 #[.agg cs.toArray, .int .i64 left] w fun e w' => e = .returned (.int .i64 (szZ left x.c.wt)) ∧ Below w.heap.size w w' := by
  obtain rfl := BlobD.open h
  simp only [BlobD.c, BlobD.cs, Cs.ok] at hok
  obtain ⟨b0, b1, _⟩ := hok
  have HW := Lib.hid (show x.c.wt = (x.id.length + (x.data.length + 0)) from rfl)
  generalize x.c.wt = T at *
  by_cases c0 : (x.id.length : Int) ≤ left
  · skip
    by_cases c1 : (x.id.length : Int) + (x.data.length : Int) ≤ left
    · skip
      have HR := Lib.hid (szZ_yes (l := left) (n := T) (by have := HW.out; omega))
      go_enter Tryd.func42, Tryd.ntmps42
      have BW := Lib.hid ((Below.refl w.heap.size w).alloc (Nat.le_refl _) (.cells #[.string (bs x.id), .string (bs x.data), .bool x.bad] 68))
      go_wp2
      go_ret
      exact ⟨ret_eq ((i64_eq (by rw [HR.out]; have := HW.out; omega)).trans rfl), BW.out⟩
    · have HR := Lib.hid (szZ_no (l := left) (n := T) (by have := HW.out; omega))
      go_enter Tryd.func42, Tryd.ntmps42
      have BW := Lib.hid ((Below.refl w.heap.size w).alloc (Nat.le_refl _) (.cells #[.string (bs x.id), .string (bs x.data), .bool x.bad] 68))
      go_wp2
      go_ret
      exact ⟨ret_eq (by rw [HR.out]; rfl), BW.out⟩
  · have HR := Lib.hid (szZ_no (l := left) (n := T) (by have := HW.out; omega))
    go_enter Tryd.func42, Tryd.ntmps42
    have BW := Lib.hid ((Below.refl w.heap.size w).alloc (Nat.le_refl _) (.cells #[.string (bs x.id), .string (bs x.data), .bool x.bad] 68))
    go_wp2
    go_ret
    exact ⟨ret_eq (by rw [HR.out]; rfl), BW.out⟩
theorem szBlob_yes (x : BlobD) (left : Int) (cs : List Value) (w : World) (h0 : 0 ≤ left) (h1 : left ≤ 4611686018427387904) (hok : x.c.ok) (h : Rep anyB w x.c cs) (hw : (x.c.wt : Int) ≤ left) :
    Calls Tryd.prog 42 #[.agg cs.toArray, .int .i64 left] w fun e w' => ∃ q : Int, e = .returned (.int .i64 q) ∧ (0 ≤ q ∧ q ≤ left) ∧ q = left - x.c.wt ∧ Below w.heap.size w w' :=
  (szBlob_z x left cs w h0 h1 hok h).mono fun e w' ⟨a, b⟩ => ⟨_, a, by rw [szZ_yes hw]; omega, szZ_yes hw, b⟩
theorem szBlob_no (x : BlobD) (left : Int) (cs : List Value) (w : World) (h0 : 0 ≤ left) (h1 : left ≤ 4611686018427387904) (hok : x.c.ok) (h : Rep anyB w x.c cs) (hw : ¬ (x.c.wt : Int) ≤ left) :
    Calls Tryd.prog 42 #[.agg cs.toArray, .int .i64 left] w fun e w' => e = .returned (.int .i64 (-1)) ∧ Below w.heap.size w w' :=
  (szBlob_z x left cs w h0 h1 hok h).mono fun e w' ⟨a, b⟩ => ⟨by rw [a, szZ_no hw], b⟩


set_option maxRecDepth 100000 in
set_option maxHeartbeats 1000000 in
theorem szBlobS_z (xs : List BlobD) (left : Int) (A : Option Addr) (n c : Nat) (w : World) (hn : n = xs.length) (h0 : 0 ≤ left) (h1 : left ≤ 4611686018427387904) (hok0 : n ≤ 9223372036854775807) (hok : (cat BlobD.c xs).ok) (h : Rep anyB w (.sl 54 3 n (cat BlobD.c xs) .nil) [.slice A n c]) :
    Calls Tryd.prog 29 #[.slice A n c, .int .i64 left] w fun e w' => e = .returned (.int .i64 (szZ left (n + (cat BlobD.c xs).wt))) ∧ Below w.heap.size w w' := by
  have HR := Lib.hid h; clear h
  have HN := Lib.hid hn; clear hn
  have HO := Lib.hid hok; clear hok
  obtain ⟨T, hT⟩ : ∃ T, T = n + (cat BlobD.c xs).wt := ⟨_, rfl⟩
  rw [← hT]
  have HT := Lib.hid hT; clear hT
  by_cases c0 : (n : Int) ≤ left
  · go_enter Tryd.func29, Tryd.ntmps29
    go_wp2
    go_loopw [1, 5] (fun ll ii wr => ∃ (j : Nat) (y : Int), j ≤ n ∧ ii = .int .i64 (j : Int) ∧ ll = .int .i64 y ∧ 0 ≤ y ∧ y ≤ left ∧ y = left - n - (cat BlobD.c (xs.take j)).wt ∧ Below w.heap.size w wr) (fun _ ii _ => n - (intOf ii).toNat)
    case atStart => exact ⟨0, left - n, Nat.zero_le _, rfl, rfl, by omega, by omega, by simp [cat, Cs.wt], Below.refl _ _⟩
    case round =>
      obtain ⟨j, y, hj, rfl, rfl, hy0, hy1, hy, hbel⟩ := hrel
      have HY := Lib.hid hy; clear hy
      have H2 := Lib.hid hbel; clear hbel
      by_cases hlt : j < n
      · have hjx : j < xs.length := by have := HN.out; omega
        obtain ⟨ad, ci, rfl, _, _, hrc, hl, hc⟩ := (HR.out.below H2.out).elem BlobD.width j hjx HN.out
        have hok1 := cat_ok HO.out j hjx
        have hst := cat_wt_take (f := BlobD.c) xs j hjx
        have hsl := cat_wt_take_le (f := BlobD.c) xs (j + 1)
        rw [hst] at hsl
        generalize xs[j] = x at *
        have HL := Lib.hid hl; clear hl
        have HC := Lib.hid hc; clear hc
        have HRC := Lib.hid hrc; clear hrc
        have HST := Lib.hid hst; clear hst
        have HSL := Lib.hid hsl; clear hsl
        have HO1 := Lib.hid hok1; clear hok1
        by_cases hov : (x.c.wt : Int) ≤ y
        · go_wp2_with (first | ((with_reducible show wpList _ _ _ ({ dst := _, op := Op.load 68 _, type := _, pos := _, after := _, guard := _ } :: _) _ _); refine wpList_load_row _ (ad.add (j * 3)) rfl ci agg_lBlob HL.out HC.out ?_) | fail)
          refine (szBlob_yes x y ci _ hy0 (by omega) HO1.out HRC.out (by omega)).mono ?_; rintro e w1 ⟨q, rfl, g, hq, hb⟩
          have HQ := Lib.hid hq; clear hq
          have B1 := Lib.hid hb; clear hb
          go_wp2
          exact ⟨⟨j + 1, q, by omega, by go_num, rfl, by omega, by omega, by have := HQ.out; have := HY.out; have := HST.out; omega, H2.out.trans (B1.out.mono H2.out.size)⟩, by simp only [intOf]; omega⟩
        · have HZ := Lib.hid (szZ_no (l := left) (n := T) (by have := HT.out; have := HY.out; have := HSL.out; omega))
          go_wp2_with (first | ((with_reducible show wpList _ _ _ ({ dst := _, op := Op.load 68 _, type := _, pos := _, after := _, guard := _ } :: _) _ _); refine wpList_load_row _ (ad.add (j * 3)) rfl ci agg_lBlob HL.out HC.out ?_) | fail)
          refine (szBlob_no x y ci _ hy0 (by omega) HO1.out HRC.out (by omega)).mono ?_; rintro e w1 ⟨rfl, hb⟩
          have B1 := Lib.hid hb; clear hb
          go_wp2
          go_ret
          exact ⟨ret_eq (by rw [HZ.out]; rfl), H2.out.trans (B1.out.mono H2.out.size)⟩
      · have hjn : j = n := by omega
        subst hjn
        have hy2 : y = left - T := by
          have h1 := HY.out
          have h2 := HT.out
          rw [List.take_of_length_le (by have := HN.out; omega)] at h1
          omega
        have HZ := Lib.hid (szZ_yes (l := left) (n := T) (by omega))
        have HY2 := Lib.hid hy2; clear hy2
        go_wp2
        go_ret
        exact ⟨ret_eq (by rw [HZ.out, ← HY2.out]; rfl), H2.out⟩
  · have HZ := Lib.hid (szZ_no (l := left) (n := T) (by have := HT.out; omega))
    go_enter Tryd.func29, Tryd.ntmps29
    go_wp2
    go_ret
    exact ⟨ret_eq (by rw [HZ.out]; rfl), Below.refl _ _⟩
theorem szBlobS_yes (xs : List BlobD) (left : Int) (A : Option Addr) (n c : Nat) (w : World) (hn : n = xs.length) (h0 : 0 ≤ left) (h1 : left ≤ 4611686018427387904) (hok0 : n ≤ 9223372036854775807) (hok : (cat BlobD.c xs).ok) (h : Rep anyB w (.sl 54 3 n (cat BlobD.c xs) .nil) [.slice A n c]) (hw : ((n + (cat BlobD.c xs).wt : Nat) : Int) ≤ left) :
    Calls Tryd.prog 29 #[.slice A n c, .int .i64 left] w fun e w' => ∃ q : Int, e = .returned (.int .i64 q) ∧ (0 ≤ q ∧ q ≤ left) ∧ q = left - ((n + (cat BlobD.c xs).wt : Nat) : Int) ∧ Below w.heap.size w w' :=
  (szBlobS_z xs left A n c w hn h0 h1 hok0 hok h).mono fun e w' ⟨a, b⟩ => ⟨_, a, by rw [szZ_yes hw]; omega, szZ_yes hw, b⟩
theorem szBlobS_no (xs : List BlobD) (left : Int) (A : Option Addr) (n c : Nat) (w : World) (hn : n = xs.length) (h0 : 0 ≤ left) (h1 : left ≤ 4611686018427387904) (hok0 : n ≤ 9223372036854775807) (hok : (cat BlobD.c xs).ok) (h : Rep anyB w (.sl 54 3 n (cat BlobD.c xs) .nil) [.slice A n c]) (hw : ¬ ((n + (cat BlobD.c xs).wt : Nat) : Int) ≤ left) :
    Calls Tryd.prog 29 #[.slice A n c, .int .i64 left] w fun e w' => e = .returned (.int .i64 (-1)) ∧ Below w.heap.size w w' :=
  (szBlobS_z xs left A n c w hn h0 h1 hok0 hok h).mono fun e w' ⟨a, b⟩ => ⟨by rw [a, szZ_no hw], b⟩


set_option maxRecDepth 100000 in
set_option maxHeartbeats 1000000 in
theorem szBlobs_z (x : BlobsD) (left : Int) (cs : List Value) (w : World) (h0 : 0 ≤ left) (h1 : left ≤ 4611686018427387904) (hok : x.c.ok) (h : Rep anyB w x.c cs) :
    Calls Tryd.prog 15 #[.agg cs.toArray, .int .i64 left] w fun e w' => e = .returned (.int .i64 (szZ left x.c.wt)) ∧ Below w.heap.size w w' := by
  obtain ⟨A0, k0, rfl, s0⟩ := BlobsD.open h
  simp only [BlobsD.c, BlobsD.cs, Cs.ok] at hok
  obtain ⟨b0, b1, d1, _⟩ := hok
  have HW := Lib.hid (show x.c.wt = (x.list.length + (cat BlobD.c x.list).wt + 0) from rfl)
  generalize x.c.wt = T at *
  have S0 := Lib.hid s0; clear s0
  clear b0
  have D1 := Lib.hid d1; clear d1
  by_cases c0 : ((x.list.length + (cat BlobD.c x.list).wt) : Int) ≤ left
  · skip
    have HR := Lib.hid (szZ_yes (l := left) (n := T) (by have := HW.out; omega))
    go_enter Tryd.func15, Tryd.ntmps15
    have BW := Lib.hid ((Below.refl w.heap.size w).alloc (Nat.le_refl _) (.cells #[.int .i64 x.quota, (.slice A0 x.list.length k0)] 29))
    go_wp2_with fail
    refine (szBlobS_yes x.list _ _ _ _ _ rfl (by omega) (by omega) b1 D1.out (S0.out.below BW.out) (by omega)).mono ?_; rintro e w1 ⟨q0, rfl, g0, hq0, hb⟩
    have HQ0 := Lib.hid hq0; clear hq0
    have B1 := Lib.hid (BW.out.trans (hb.mono BW.out.size)); clear BW
    obtain ⟨hc, hf⟩ := bcell hb; clear hb
    have BW := Lib.hid B1.out; clear B1
    go_wp2
    go_ret
    exact ⟨ret_eq ((i64_eq (by rw [HR.out]; have := HW.out; have := HQ0.out; omega)).trans rfl), BW.out⟩
  · have HR := Lib.hid (szZ_no (l := left) (n := T) (by have := HW.out; omega))
    go_enter Tryd.func15, Tryd.ntmps15
    have BW := Lib.hid ((Below.refl w.heap.size w).alloc (Nat.le_refl _) (.cells #[.int .i64 x.quota, (.slice A0 x.list.length k0)] 29))
    go_wp2_with fail
    refine (szBlobS_no x.list _ _ _ _ _ rfl (by omega) (by omega) b1 D1.out (S0.out.below BW.out) (by omega)).mono ?_; rintro e w1 ⟨rfl, hb⟩
    have B1 := Lib.hid (BW.out.trans (hb.mono BW.out.size)); clear BW
    obtain ⟨hc, hf⟩ := bcell hb; clear hb
    have BW := Lib.hid B1.out; clear B1
    go_wp2
    go_ret
    exact ⟨ret_eq (by rw [HR.out]; rfl), BW.out⟩
theorem szBlobs_yes (x : BlobsD) (left : Int) (cs : List Value) (w : World) (h0 : 0 ≤ left) (h1 : left ≤ 4611686018427387904) (hok : x.c.ok) (h : Rep anyB w x.c cs) (hw : (x.c.wt : Int) ≤ left) :
    Calls Tryd.prog 15 #[.agg cs.toArray, .int .i64 left] w fun e w' => ∃ q : Int, e = .returned (.int .i64 q) ∧ (0 ≤ q ∧ q ≤ left) ∧ q = left - x.c.wt ∧ Below w.heap.size w w' :=
  (szBlobs_z x left cs w h0 h1 hok h).mono fun e w' ⟨a, b⟩ => ⟨_, a, by rw [szZ_yes hw]; omega, szZ_yes hw, b⟩
theorem szBlobs_no (x : BlobsD) (left : Int) (cs : List Value) (w : World) (h0 : 0 ≤ left) (h1 : left ≤ 4611686018427387904) (hok : x.c.ok) (h : Rep anyB w x.c cs) (hw : ¬ (x.c.wt : Int) ≤ left) :
    Calls Tryd.prog 15 #[.agg cs.toArray, .int .i64 left] w fun e w' => e = .returned (.int .i64 (-1)) ∧ Below w.heap.size w w' :=
  (szBlobs_z x left cs w h0 h1 hok h).mono fun e w' ⟨a, b⟩ => ⟨by rw [a, szZ_no hw], b⟩


















































































































































































































































end Go.Proofs.YtmhbfeglnhangaaDoor
