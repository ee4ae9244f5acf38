/-
  Rows of rows of Ids: equal, marked, held. Conditions: a bound on the sizes; each block once.
-/
import Derived.Test.YtoffelfcmfpooaaEq
import Derived.Test.YtoffelfcmfpooaaMk
import Derived.Test.YtoffelfcmfpooaaMxD
set_option linter.unusedVariables false
set_option linter.unusedSimpArgs false
namespace Go.Proofs.Ytoffelfcmfpooaa
open Go.RowKit
theorem partC_wt (x : List IdD) : (partC x).wt = x.length + (cat IdD.c x).wt := by unfold partC; simp [Cs.wt]
theorem bParts (xs : List InstD) (_ : xs.length + (cat InstD.c xs).wt ≤ 1048576) :
    (fParts xs).length + (cat partC (fParts xs)).wt ≤ 4611686018427387 ∧ cts (cts IdD.cnt) (fParts xs) ≤ 4611686018427387 := by
  have hw : ∀ l : List IdD, (cat IdD.c l).wt = 0 := fun l => by
    induction l with
    | nil => rfl
    | cons x r ih => rw [cat_cons, Cs.wt_app, ih]; rfl
  have hs := fParts_small xs
  have hg : ∀ l : List (List IdD), (∀ p ∈ l, p.length ≤ 18) → (cat partC l).wt ≤ 18 * l.length ∧ cts (cts IdD.cnt) l ≤ 36 * l.length := fun l => by
    induction l with
    | nil => exact fun _ => ⟨Nat.zero_le _, Nat.zero_le _⟩
    | cons x r ih =>
      intro h
      have h1 := ih (fun p hp => h p (by simp [hp]))
      have h2 := h x (by simp)
      have h3 := IdD.cts_le x
      rw [cat_cons, Cs.wt_app, partC_wt, hw, cts, List.length_cons]
      omega
  have := hg _ hs.2
  omega

set_option maxRecDepth 100000 in
set_option maxHeartbeats 2000000 in
theorem eqIdSS_any (xs : List (List IdD)) (A A' : Option Addr) (n c c' : Nat) (w : World) (hn : n = xs.length) (hwt : n + (cat partC xs).wt ≤ 4611686018427387904) (h : Rep anyB w (.sl 38 1 n (cat partC xs) .nil) [.slice A n c]) (h' : Rep anyB w (.sl 38 1 n (cat partC xs) .nil) [.slice A' n c']) :
    Calls Try.prog 19 #[.slice A n c, .slice A' n c'] w fun e w' => e = .returned (.bool true) ∧ Below w.heap.size w w' := by
  have HR := Lib.hid h; clear h
  have HR' := Lib.hid h'; clear h'
  have HN := Lib.hid hn; clear hn
  have HWT := Lib.hid hwt; clear hwt
  have hn1 : n ≤ 4611686018427387904 := by have := HWT.out; omega
  go_enter Try.func19, Try.ntmps19
  go_wp2
  go_loopw [5] (fun ii wr => ∃ (j : Nat), j ≤ n ∧ ii = .int .i64 (j : Int) ∧ Below w.heap.size w wr) (fun ii _ => n - (intOf ii).toNat)
  case atStart => exact ⟨0, Nat.zero_le _, rfl, Below.refl _ _⟩
  case round =>
    obtain ⟨j, hj, rfl, hbel⟩ := hrel
    have H2 := Lib.hid hbel; clear hbel
    by_cases hlt : j < n
    · have hjx : j < xs.length := by have := HN.out; omega
      obtain ⟨ad, ci, rfl, _, _, hrc, hl, hc⟩ := (HR.out.below H2.out).elem partC_width j hjx HN.out
      obtain ⟨ad', ci', rfl, _, _, hrc', hl', hc'⟩ := (HR'.out.below H2.out).elem partC_width j hjx HN.out
      obtain ⟨A1, k1, r1, rfl, hrp, hnil⟩ := Rep.sl.1 (show Rep anyB wr (.sl 36 2 (xs[j]).length (cat IdD.c xs[j]) .nil) ci from hrc)
      obtain rfl := Rep.nil.1 hnil
      obtain ⟨A2, k2, r2, rfl, hrp', hnil'⟩ := Rep.sl.1 (show Rep anyB wr (.sl 36 2 (xs[j]).length (cat IdD.c xs[j]) .nil) ci' from hrc')
      obtain rfl := Rep.nil.1 hnil'
      have hsl := cat_wt_le (f := partC) (List.getElem_mem hjx)
      rw [partC_wt] at hsl
      have hcell0 : wr.cell? (ad.add (j * 1)) = some (.slice A1 (xs[j]).length k1) := by have := hc 0 _ rfl; rwa [addr_add0] at this
      have hcell0' : wr.cell? (ad'.add (j * 1)) = some (.slice A2 (xs[j]).length k2) := by have := hc' 0 _ rfl; rwa [addr_add0] at this
      rw [Nat.mul_one] at hcell0 hcell0'
      generalize xs[j] = x at *
      obtain ⟨m1, hm1⟩ : ∃ m, m = x.length := ⟨_, rfl⟩
      rw [← hm1] at hcell0 hcell0' hrp hrp' hsl
      have HM1 := Lib.hid hm1; clear hm1
      have hcell : wr.drew.cell? (ad.add j) = some (.slice A1 m1 k1) := hcell0
      have hcell' : wr.drew.cell? (ad'.add j) = some (.slice A2 m1 k2) := hcell0'
      have HRP := Lib.hid hrp; have HRP' := Lib.hid hrp'; have HSL := Lib.hid hsl
      clear hrp hrp' hsl hc hc' hrc hrc' hl hl' hnil hnil' hcell0 hcell0'
      go_wp2
      refine wp_region_x 10 [0, 1, 2, 3, 4, 5, 6, 7, 8, 9] (by kernel_rfl) (by kernel_rfl) ?_
      iterate 8 (refine wpX_quiet rfl (by kernel_rfl) rfl ?_; go_wp2; refine ⟨rfl, ?_⟩)
      refine wpX_actor rfl (by kernel_rfl) ?_
      go_wp2_with fail
      refine (eqIdS_any x A1 A2 m1 k1 k2 _ HM1.out (by have := HWT.out; have := HSL.out; omega) HRP.out.drew HRP'.out.drew).mono ?_; rintro e w1 ⟨rfl, hb⟩
      have B1 := Lib.hid hb; clear hb
      clear hcell hcell'
      go_wp2
      refine ⟨Ext.of_below B1.out, ?_⟩
      iterate 1 (refine wpX_quiet rfl (by kernel_rfl) rfl ?_; go_wp2; refine ⟨rfl, ?_⟩)
      refine wpX_nil ?_
      simp only [List.drop_succ_cons, List.drop_zero]
      go_wp2
      exact ⟨⟨j + 1, by omega, by go_num, H2.out.drew.trans (B1.out.mono H2.out.size)⟩, by simp only [intOf]; omega⟩
    · have hjn : j = n := by omega
      subst hjn
      go_wp2
      go_ret
      exact ⟨ret_eq rfl, H2.out⟩

set_option maxRecDepth 100000 in
set_option maxHeartbeats 2000000 in
theorem markIdSS_any (xs : List (List IdD)) (k : Nat) (y0 : Int) (base : Nat) (A : Option Addr) (n c : Nat) (F : List Nat) (w : World) (hn : n = xs.length) (hy0 : y0 = (k : Int)) (hk1 : 1 ≤ k) (hk2 : k + cts (cts IdD.cnt) xs ≤ 4611686018427387904) (hF : F.Nodup) (h : Own w base (.sl 38 1 n (cat partC xs) .nil) [.slice A n c] F) :
    Calls Try.prog 20 #[.slice A n c, .int .i64 y0] w fun e w' => ∃ q : Int, e = .returned (.int .i64 q) ∧ q = ((k + cts (cts IdD.cnt) xs : Nat) : Int) ∧ Own w' base (.sl 38 1 n (cat partC (mks (mks IdD.mkv IdD.cnt) (cts IdD.cnt) xs k)) .nil) [.slice A n c] F ∧ Mod F w w' := by
  have HN := Lib.hid hn; clear hn
  have HF := Lib.hid hF; clear hF
  have HK2 := Lib.hid hk2; clear hk2
  have hnb := own_len h
  have H0 := Lib.hid h; clear h
  have HY0 := Lib.hid hy0; clear hy0
  have hy1 : 1 ≤ y0 := by have := HY0.out; omega
  go_enter Try.func20, Try.ntmps20
  go_wp2
  go_loopw [1, 5] (fun kk ii wr => ∃ (j : Nat) (y : Int), j ≤ n ∧ ii = .int .i64 (j : Int) ∧ kk = .int .i64 y ∧ y = ((k + cts (cts IdD.cnt) (xs.take j) : Nat) : Int) ∧ Own wr base (.sl 38 1 n (cat partC (mks (mks IdD.mkv IdD.cnt) (cts IdD.cnt) (xs.take j) k ++ xs.drop j)) .nil) [.slice A n c] F ∧ Mod F w wr) (fun _ ii _ => n - (intOf ii).toNat)
  case atStart => exact ⟨0, y0, Nat.zero_le _, rfl, rfl, by simpa [cts] using HY0.out, by simpa [mks] using H0.out, Mod.refl _ _⟩
  case round =>
    obtain ⟨j, y, hj, rfl, rfl, hy, hown, hmod⟩ := hrel
    have hjn : j ≤ xs.length := by have := HN.out; omega
    have hk3 := cts_take_le (cnt := cts IdD.cnt) xs j
    have HY := Lib.hid hy; clear hy hk3
    have MD := Lib.hid hmod; clear hmod
    by_cases hlt : j < n
    · have hjx : j < xs.length := by have := HN.out; omega
      have hct := cts_take_succ (cnt := cts IdD.cnt) xs j hjx
      have hct2 := cts_take_le (cnt := cts IdD.cnt) xs (j + 1)
      have hms := mks_take_succ (mk := mks IdD.mkv IdD.cnt) (cnt := cts IdD.cnt) xs k j hjx
      rw [mks_take_drop (mk := mks IdD.mkv IdD.cnt) (cnt := cts IdD.cnt) xs k j hjx] at hown
      obtain ⟨g, rfl⟩ := own_sl hown (by omega)
      obtain ⟨c1, c2, c3, sp, G1, G2, G3, rfl, o1, o2, o3, hl1, hbg, hblk, hre⟩ := own_round partC_width hown
      rw [mks_length, List.length_take, Nat.min_eq_left hjn] at hl1
      generalize xs[j] = x at *
      obtain ⟨hg1, hnd1, hnd2, hd12, hd13, hd23⟩ := nodup3 HF.out
      obtain ⟨A1, k1, c4, F3, F4, rfl, rfl, s0, s1⟩ := Own.sl.1 (show Own wr base (.sl 36 2 x.length (cat IdD.c x) .nil) c2 G2 from o2)
      obtain ⟨rfl, rfl⟩ := Own.nil.1 s1
      rw [List.append_nil] at hg1 hnd2 hd12 hd23
      have hcell : wr.cell? ⟨g, j, none⟩ = some (.slice A1 x.length k1) := by have h1 := blk_get hblk hl1 (f := 0) rfl; rw [Nat.mul_one] at h1; exact h1
      obtain ⟨m1, hm1⟩ : ∃ m, m = x.length := ⟨_, rfl⟩
      rw [← hm1] at hcell s0 hblk
      have HM1 := Lib.hid hm1; clear hm1
      have O1 := Lib.hid o1; have O3 := Lib.hid o3; have LB := Lib.hid hblk; have HRE := Lib.hid hre; have HCT := Lib.hid hct; have HCT2 := Lib.hid hct2; have HMS := Lib.hid hms; have HG := Lib.hid hg1; have D12 := Lib.hid hd12; have D23 := Lib.hid hd23; have ND2 := Lib.hid hnd2; have S0 := Lib.hid s0
      clear o1 o2 o3 hown hl1 hblk hre hct hct2 hms hg1 hd12 hd13 hd23 hnd1 hnd2 s0 s1
      go_wp2_with fail
      refine (markIdS_any x (k + cts (cts IdD.cnt) (xs.take j)) y base A1 m1 k1 F3 _ HM1.out HY.out (by omega) (by have := HCT.out; have := HCT2.out; have := HK2.out; omega) ND2.out S0.out).mono ?_; rintro e v1 ⟨q, rfl, hq, ho, hm⟩
      have HO := Lib.hid ho; have HM := Lib.hid hm; have HQ := Lib.hid hq
      clear ho hm hq hcell
      go_wp2
      refine ⟨⟨j + 1, _, by omega, by go_num, rfl, ?_, ?_, ?_⟩, by simp only [intOf]; omega⟩
      · have := HCT.out; have := HQ.out; omega
      · rw [HMS.out]
        refine HRE.out _ _ _ (O1.out.mod1 HM.out D12.out) (show Own v1 base (partC (mks IdD.mkv IdD.cnt x (k + cts (cts IdD.cnt) (xs.take j)))) [.slice A1 m1 k1] (F3 ++ []) from ?_) (O3.out.mod1 HM.out (fun b hb e => D23.out b e hb)) (LB.out.keep (HM.out.block _ LB.out.lt (fun hb => HG.out g (by simp [hb]) rfl)))
        rw [List.append_nil]
        have h1 : m1 = (mks IdD.mkv IdD.cnt x (k + cts (cts IdD.cnt) (xs.take j))).length := by rw [mks_length]; exact HM1.out
        have h2 := HO.out
        unfold partC
        rw [← h1]
        exact h2
      · exact MD.out.trans (HM.out.mono (fun b hb => by simp [hb]))
    · have hjn2 : j = n := by omega
      subst hjn2
      rw [List.take_of_length_le (by have := HN.out; omega), List.drop_of_length_le (by have := HN.out; omega), List.append_nil] at hown
      have H1 := Lib.hid hown; clear hown
      have hy4 := HY.out
      rw [List.take_of_length_le (by have := HN.out; omega)] at hy4
      have H4 := Lib.hid hy4; clear hy4
      go_wp2
      go_ret
      exact ⟨_, rfl, H4.out, H1.out, MD.out⟩

set_option maxRecDepth 100000 in
set_option maxHeartbeats 2000000 in
theorem heldIdSS_any (xs : List (List IdD)) (k : Nat) (y0 : Int) (A : Option Addr) (n c : Nat) (w : World) (hn : n = xs.length) (hnb : n ≤ 4611686018427387904) (hy0 : y0 = (k : Int)) (hk1 : 1 ≤ k) (hk2 : k + cts (cts IdD.cnt) xs ≤ 4611686018427387904) (h : Rep anyB w (.sl 38 1 n (cat partC (mks (mks IdD.mkv IdD.cnt) (cts IdD.cnt) xs k)) .nil) [.slice A n c]) :
    Calls Try.prog 21 #[.slice A n c, .int .i64 y0] w fun e w' => ∃ q : Int, e = .returned (.int .i64 q) ∧ q = ((k + cts (cts IdD.cnt) xs : Nat) : Int) ∧ Below w.heap.size w w' := by
  have HN := Lib.hid hn; clear hn
  have HK2 := Lib.hid hk2; clear hk2
  have HR := Lib.hid h; clear h
  have HY0 := Lib.hid hy0; clear hy0
  have hy1 : 1 ≤ y0 := by have := HY0.out; omega
  go_enter Try.func21, Try.ntmps21
  go_wp2
  go_loopw [1, 5] (fun kk ii wr => ∃ (j : Nat) (y : Int), j ≤ n ∧ ii = .int .i64 (j : Int) ∧ kk = .int .i64 y ∧ y = ((k + cts (cts IdD.cnt) (xs.take j) : Nat) : Int) ∧ Below w.heap.size w wr) (fun _ ii _ => n - (intOf ii).toNat)
  case atStart => exact ⟨0, y0, Nat.zero_le _, rfl, rfl, by simpa [cts] using HY0.out, Below.refl _ _⟩
  case round =>
    obtain ⟨j, y, hj, rfl, rfl, hy, hbel⟩ := hrel
    have hjn : j ≤ xs.length := by have := HN.out; omega
    have HY := Lib.hid hy; clear hy
    have H2 := Lib.hid hbel; clear hbel
    by_cases hlt : j < n
    · have hjx : j < xs.length := by have := HN.out; omega
      have hct := cts_take_succ (cnt := cts IdD.cnt) xs j hjx
      have hct2 := cts_take_le (cnt := cts IdD.cnt) xs (j + 1)
      obtain ⟨ad, ci, rfl, _, _, hrc, hl, hc⟩ := (HR.out.below H2.out).elem partC_width j (by rw [mks_length]; exact hjx) (by rw [mks_length]; exact HN.out)
      rw [mks_get _ _ _ hjx] at hrc
      generalize xs[j] = x at *
      obtain ⟨X, hX⟩ : ∃ X, X = mks IdD.mkv IdD.cnt x (k + cts (cts IdD.cnt) (xs.take j)) := ⟨_, rfl⟩
      rw [← hX] at hrc
      obtain ⟨A1, k1, r1, rfl, hrp, hnil⟩ := Rep.sl.1 (show Rep anyB wr (.sl 36 2 X.length (cat IdD.c X) .nil) ci from hrc)
      obtain rfl := Rep.nil.1 hnil
      have hcell : wr.cell? (ad.add (j * 1)) = some (.slice A1 X.length k1) := by have := hc 0 _ rfl; rwa [addr_add0] at this
      rw [Nat.mul_one] at hcell
      obtain ⟨m1, hm1⟩ : ∃ m, m = X.length := ⟨_, rfl⟩
      rw [← hm1] at hcell hrp
      have hm2 : m1 = x.length := by rw [hm1, hX, mks_length]
      subst hX
      have HM1 := Lib.hid hm2; have HRP := Lib.hid hrp; have HCT := Lib.hid hct; have HCT2 := Lib.hid hct2
      clear hm1 hm2 hrp hrc hc hl hnil hct hct2
      go_wp2_with fail
      refine (heldIdS_any x (k + cts (cts IdD.cnt) (xs.take j)) y A1 m1 k1 _ HM1.out HY.out (by omega) (by have := HCT.out; have := HCT2.out; have := HK2.out; omega) HRP.out).mono ?_; rintro e v1 ⟨q, rfl, hq, hb⟩
      have HQ := Lib.hid hq; have HB := Lib.hid hb
      have hq0 : ¬ (q < 0) := by omega
      have hq1 : decide (q < 0) = false := by simpa using hq0
      clear hq hb hcell
      go_wp2
      exact ⟨⟨j + 1, _, by omega, by go_num, rfl, by have := HCT.out; have := HQ.out; omega, H2.out.trans (HB.out.mono H2.out.size)⟩, by simp only [intOf]; omega⟩
    · have hjn2 : j = n := by omega
      subst hjn2
      have hy4 := HY.out
      rw [List.take_of_length_le (by have := HN.out; omega)] at hy4
      have H4 := Lib.hid hy4; clear hy4
      go_wp2
      go_ret
      exact ⟨_, rfl, H4.out, H2.out⟩

end Go.Proofs.Ytoffelfcmfpooaa
