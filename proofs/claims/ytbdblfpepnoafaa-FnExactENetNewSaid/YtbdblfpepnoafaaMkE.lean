/-
  The laws' helpers mark* and held*, greater elements. Conditions: as each contract names them.
-/
import Derived.Test.YtbdblfpepnoafaaMkC
namespace Go.Proofs.Ytbdblfpepnoafaa
open Go.RowKit


set_option maxRecDepth 100000 in
set_option maxHeartbeats 1000000 in
theorem markENodeS_any (xs : List ENodeD) (k : Nat) (y0 : Int) (base : Nat) (A : Option Addr) (n c : Nat) (F : List Nat) (w : World) (hn : n = xs.length) (hy0 : y0 = (k : Int)) (hk1 : 1 ≤ k) (hk2 : k + cts ENodeD.cnt xs ≤ 4611686018427387904) (hF : F.Nodup) (h : Own w base (.sl 78 4 n (cat ENodeD.c xs) .nil) [.slice A n c] F) :
    Calls Try.prog 126 #[.slice A n c, .int .i64 y0] w fun e w' => ∃ q : Int, e = .returned (.int .i64 q) ∧ q = ((k + cts ENodeD.cnt xs : Nat) : Int) ∧ Own w' base (.sl 78 4 n (cat ENodeD.c (mks ENodeD.mkv ENodeD.cnt xs k)) .nil) [.slice A n c] F ∧ Mod F w w' := by
  have HN := Lib.hid hn; clear hn
  have HF := Lib.hid hF; clear hF
  have HK2 := Lib.hid hk2; clear hk2
  have hnb := own_len h
  have H0 := Lib.hid h; clear h
  have HY0 := Lib.hid hy0; clear hy0
  have hy1 : 1 ≤ y0 := by have := HY0.out; omega
  go_enter Try.func126, Try.ntmps126
  go_wp2
  go_loopw [1, 5] (fun kk ii wr => ∃ (j : Nat) (y : Int), j ≤ n ∧ ii = .int .i64 (j : Int) ∧ kk = .int .i64 y ∧ y = ((k + cts ENodeD.cnt (xs.take j) : Nat) : Int) ∧ Own wr base (.sl 78 4 n (cat ENodeD.c (mks ENodeD.mkv ENodeD.cnt (xs.take j) k ++ xs.drop j)) .nil) [.slice A n c] F ∧ Mod F w wr) (fun _ ii _ => n - (intOf ii).toNat)
  case atStart => exact ⟨0, y0, Nat.zero_le _, rfl, rfl, by simpa [cts] using HY0.out, by simpa [mks] using H0.out, Mod.refl _ _⟩
  case round =>
    obtain ⟨j, y, hj, rfl, rfl, hy, hown, hmod⟩ := hrel
    have hjn : j ≤ xs.length := by have := HN.out; omega
    have hk3 := cts_take_le (cnt := ENodeD.cnt) xs j
    have hyb : 1 ≤ y ∧ y ≤ 4611686018427387904 := by have := HK2.out; omega
    obtain ⟨hy2, hy3⟩ := hyb
    have HY := Lib.hid hy; clear hy hk3
    have MD := Lib.hid hmod; clear hmod
    by_cases hlt : j < n
    · have hjx : j < xs.length := by have := HN.out; omega
      have hct := cts_take_succ (cnt := ENodeD.cnt) xs j hjx
      have hct2 := cts_take_le (cnt := ENodeD.cnt) xs (j + 1)
      have hms := mks_take_succ (mk := ENodeD.mkv) (cnt := ENodeD.cnt) xs k j hjx
      rw [mks_take_drop (mk := ENodeD.mkv) (cnt := ENodeD.cnt) xs k j hjx] at hown
      obtain ⟨g, rfl⟩ := own_addr hown (by omega)
      obtain ⟨c1, c2, c3, sp, G1, G2, G3, rfl, o1, o2, o3, hl1, hbg, hblk, hre⟩ := own_round ENodeD.width hown
      rw [mks_length, List.length_take, Nat.min_eq_left hjn] at hl1
      generalize xs[j] = x at *
      obtain ⟨hg1, hnd1, hnd2, hd12, hd13, hd23⟩ := nodup3 HF.out
      obtain ⟨A0, k0, A1, k1, F0, F1, rfl, rfl, s0, s1⟩ := ENodeD.openO o2
      clear o2 hown
      have O1 := Lib.hid o1; clear o1
      have O3 := Lib.hid o3; clear o3
      have HL := Lib.hid hl1; clear hl1
      have LB := Lib.hid hblk; clear hblk
      have HRE := Lib.hid hre; clear hre
      have HCT := Lib.hid hct; clear hct
      have HCT2 := Lib.hid hct2; clear hct2
      have HMS := Lib.hid hms; clear hms
      have HG := Lib.hid hg1; clear hg1
      have D12 := Lib.hid hd12; clear hd12
      have D13 := Lib.hid hd13; clear hd13
      have D23 := Lib.hid hd23; clear hd23
      have ND2 := Lib.hid hnd2; clear hnd2
      have ND1 := Lib.hid hnd1; clear hnd1
      have S0 := Lib.hid s0; clear s0
      have S1 := Lib.hid s1; clear s1
      have MR := Lib.hid (Mod.refl (g :: (F0 ++ F1)) wr)
      have hfz : ∀ p, World.frozen? wr ⟨g, p, none⟩ = false := fun p => LB.out.frozen p
      have hc0 : ∃ u, World.cell? wr ⟨g, j * 4, none⟩ = some u := ⟨_, blk_get LB.out HL.out (f := 0) rfl⟩
      obtain ⟨u0, hc0⟩ := hc0
      have hc1 : ∃ u, World.cell? wr ⟨g, j * 4 + 1, none⟩ = some u := ⟨_, blk_get LB.out HL.out (f := 1) rfl⟩
      obtain ⟨u1, hc1⟩ := hc1
      have hc2 : World.cell? wr ⟨g, j * 4 + 2, none⟩ = some (.slice A0 x.insts.length k0) := blk_get LB.out HL.out (f := 2) rfl
      go_wp2_with fail
      refine (markInstS_any x.insts ((k + cts ENodeD.cnt (xs.take j)) + 1 + 1) _ base _ _ _ F0 _ rfl (by have := HY.out;  first | omega | (simp only [ENodeD.cnt] <;> omega)) (by omega) (by have := HCT.out; have := HCT2.out; have := HK2.out; simp only [ENodeD.cnt] at *; omega) (nodup_l ND2.out) (S0.out.mod1 (F' := [g]) (by repeat' (first | with_reducible exact Mod.refl _ _ | with_reducible refine Mod.setCell ?_ ?_ _ | with_reducible refine Mod.drew ?_ | (simp; done) | (simp; omega) | omega)) (fun b hb e => HG.out b (by simp [hb]) (by simpa using e)))).mono ?_; rintro e v1 ⟨q0, rfl, hq, ho, hm⟩
      have lb := Blk.mod (blk_put (blk_put LB.out HL.out (f := 0) _ (by simp)) HL.out (f := 1) _ (by simp)) hm (fun e => HG.out g (by simp [e]) rfl)
      skip
      have mr : Mod (g :: (F0 ++ F1)) wr v1 := MR.out.trans (Mod.trans (Mod.mono (F := [g]) (by repeat' (first | with_reducible exact Mod.refl _ _ | with_reducible refine Mod.setCell ?_ ?_ _ | with_reducible refine Mod.drew ?_ | (simp; done) | (simp; omega) | omega)) (by simp)) (hm.mono (by simp; intro b hb; simp [hb])))
      have s0 := ho
      have s1 := (S1.out.mod1 (F' := [g]) (by repeat' (first | with_reducible exact Mod.refl _ _ | with_reducible refine Mod.setCell ?_ ?_ _ | with_reducible refine Mod.drew ?_ | (simp; done) | (simp; omega) | omega)) (fun b hb e => HG.out b (by simp [hb]) (by simpa using e))).mod1 hm (fun b hb e => disj ND2.out b e hb)
      have HCL := Lib.hid (And.intro HL.out trivial); clear HCL
      clear hc0 hc1 hc2 hfz
      have LB' := Lib.hid lb; clear LB lb
      have LB := Lib.hid LB'.out; clear LB'
      have MR' := Lib.hid mr; clear MR mr
      have MR := Lib.hid MR'.out; clear MR'
      have S0' := Lib.hid s0; clear S0 s0
      have S0 := Lib.hid S0'.out; clear S0'
      have S1' := Lib.hid s1; clear S1 s1
      have S1 := Lib.hid S1'.out; clear S1'
      have HQ0 := Lib.hid (show q0 = (((k + cts ENodeD.cnt (xs.take j)) + 1 + 1 + cts InstD.cnt x.insts : Nat) : Int) by rw [hq] <;> (first | omega | (simp only [ENodeD.cnt] <;> omega))); clear hq ho hm
      have hb0 : 1 ≤ q0 ∧ q0 ≤ 4611686018427387904 := by have := HQ0.out; have := HCT.out; have := HCT2.out; have := HK2.out; simp only [ENodeD.cnt] at *; omega
      obtain ⟨hb0a, hb0b⟩ := hb0
      have hfz : ∀ p, World.frozen? v1 ⟨g, p, none⟩ = false := fun p => LB.out.frozen p
      have hc3 : World.cell? v1 ⟨g, j * 4 + 3, none⟩ = some (.slice A1 x.leads.length k1) := blk_get LB.out HL.out (f := 3) rfl
      go_wp2_with fail
      refine (markLeadS_any x.leads ((k + cts ENodeD.cnt (xs.take j)) + 1 + 1 + cts InstD.cnt x.insts) _ base _ _ _ F1 _ rfl (by have := HY.out; have := HQ0.out;  first | omega | (simp only [ENodeD.cnt] <;> omega)) (by omega) (by have := HCT.out; have := HCT2.out; have := HK2.out; simp only [ENodeD.cnt] at *; omega) (nodup_r ND2.out) (S1.out.mod1 (F' := [g]) (by repeat' (first | with_reducible exact Mod.refl _ _ | with_reducible refine Mod.setCell ?_ ?_ _ | with_reducible refine Mod.drew ?_ | (simp; done) | (simp; omega) | omega)) (fun b hb e => HG.out b (by simp [hb]) (by simpa using e)))).mono ?_; rintro e v2 ⟨q1, rfl, hq, ho, hm⟩
      have lb := Blk.mod LB.out hm (fun e => HG.out g (by simp [e]) rfl)
      skip
      have mr : Mod (g :: (F0 ++ F1)) wr v2 := MR.out.trans (Mod.trans (Mod.mono (F := [g]) (by repeat' (first | with_reducible exact Mod.refl _ _ | with_reducible refine Mod.setCell ?_ ?_ _ | with_reducible refine Mod.drew ?_ | (simp; done) | (simp; omega) | omega)) (by simp)) (hm.mono (by simp; intro b hb; simp [hb])))
      have s0 := (S0.out.mod1 (F' := [g]) (by repeat' (first | with_reducible exact Mod.refl _ _ | with_reducible refine Mod.setCell ?_ ?_ _ | with_reducible refine Mod.drew ?_ | (simp; done) | (simp; omega) | omega)) (fun b hb e => HG.out b (by simp [hb]) (by simpa using e))).mod1 hm (fun b hb e => disj ND2.out b hb e)
      have s1 := ho
      have HCL := Lib.hid (And.intro HL.out trivial); clear HCL
      clear hc3 hfz
      have LB' := Lib.hid lb; clear LB lb
      have LB := Lib.hid LB'.out; clear LB'
      have MR' := Lib.hid mr; clear MR mr
      have MR := Lib.hid MR'.out; clear MR'
      have S0' := Lib.hid s0; clear S0 s0
      have S0 := Lib.hid S0'.out; clear S0'
      have S1' := Lib.hid s1; clear S1 s1
      have S1 := Lib.hid S1'.out; clear S1'
      have HQ1 := Lib.hid (show q1 = (((k + cts ENodeD.cnt (xs.take j)) + 1 + 1 + cts InstD.cnt x.insts + cts LeadD.cnt x.leads : Nat) : Int) by rw [hq] <;> (first | omega | (simp only [ENodeD.cnt] <;> omega))); clear hq ho hm
      have hb1 : 1 ≤ q1 ∧ q1 ≤ 4611686018427387904 := by have := HQ1.out; have := HCT.out; have := HCT2.out; have := HK2.out; simp only [ENodeD.cnt] at *; omega
      obtain ⟨hb1a, hb1b⟩ := hb1
      have hfz : ∀ p, World.frozen? v2 ⟨g, p, none⟩ = false := fun p => LB.out.frozen p
      go_wp2
      refine ⟨⟨j + 1, _, by omega, by go_num, rfl, ?_, ?_, ?_⟩, by simp only [intOf]; omega⟩
      · have := HCT.out; have := HY.out; have := HQ0.out; have := HQ1.out; simp only [ENodeD.cnt] at *; omega
      · rw [HMS.out]
        refine HRE.out _ _ _ (O1.out.mod1 (F' := (g :: (F0 ++ F1))) ?_ (fun b hb e => ?_)) (Own.castL (ENodeD.shutO (own_cast (S0.out.mod1 (F' := [g]) (by repeat' (first | with_reducible exact Mod.refl _ _ | with_reducible refine Mod.setCell ?_ ?_ _ | with_reducible refine Mod.drew ?_ | (simp; done) | (simp; omega) | omega)) (fun b hb e => HG.out b (by simp [hb]) (by simpa using e))) (mks_length _ _).symm) (own_cast (S1.out.mod1 (F' := [g]) (by repeat' (first | with_reducible exact Mod.refl _ _ | with_reducible refine Mod.setCell ?_ ?_ _ | with_reducible refine Mod.drew ?_ | (simp; done) | (simp; omega) | omega)) (fun b hb e => HG.out b (by simp [hb]) (by simpa using e))) (mks_length _ _).symm)) (cons_eq (i64_eq (show (_ : Int) = (ENodeD.mkv x ((k + cts ENodeD.cnt (xs.take j)))).me by have := HY.out; have := HQ0.out; have := HQ1.out; simp only [ENodeD.mkv, ENodeD.cnt]; omega)) (cons_eq (i64_eq (show (_ : Int) = (ENodeD.mkv x ((k + cts ENodeD.cnt (xs.take j)))).next by have := HY.out; have := HQ0.out; have := HQ1.out; simp only [ENodeD.mkv, ENodeD.cnt]; omega)) (cons_eq (rfl) (cons_eq (rfl) rfl))))) (O3.out.mod1 (F' := (g :: (F0 ++ F1))) ?_ (fun b hb e => ?_)) LB.out
        · exact Mod.trans MR.out (Mod.mono (F := [g]) (by repeat' (first | with_reducible exact Mod.refl _ _ | with_reducible refine Mod.setCell ?_ ?_ _ | with_reducible refine Mod.drew ?_ | (simp; done) | (simp; omega) | omega)) (by simp))
        · rcases List.mem_cons.1 e with e | e
          · exact HG.out b (by simp [hb]) e
          · exact D12.out b hb e
        · exact Mod.trans MR.out (Mod.mono (F := [g]) (by repeat' (first | with_reducible exact Mod.refl _ _ | with_reducible refine Mod.setCell ?_ ?_ _ | with_reducible refine Mod.drew ?_ | (simp; done) | (simp; omega) | omega)) (by simp))
        · rcases List.mem_cons.1 e with e | e
          · exact HG.out b (by simp [hb]) e
          · exact D23.out b e hb
      · exact MD.out.trans (Mod.mono (F := (g :: (F0 ++ F1))) (Mod.trans MR.out (Mod.mono (F := [g]) (by repeat' (first | with_reducible exact Mod.refl _ _ | with_reducible refine Mod.setCell ?_ ?_ _ | with_reducible refine Mod.drew ?_ | (simp; done) | (simp; omega) | omega)) (by simp))) sub_mid)
    · have hjn2 : j = n := by omega
      subst hjn2
      rw [List.take_of_length_le (by have := HN.out; omega), List.drop_of_length_le (by have := HN.out; omega), List.append_nil] at hown
      have H1 := Lib.hid hown; clear hown
      have hy4 := HY.out
      rw [List.take_of_length_le (by have := HN.out; omega)] at hy4
      have H4 := Lib.hid hy4; clear hy4
      go_wp2
      go_ret
      exact ⟨_, rfl, H4.out, H1.out, MD.out⟩


set_option maxRecDepth 100000 in
set_option maxHeartbeats 1000000 in
theorem heldENodeS_any (xs : List ENodeD) (k : Nat) (y0 : Int) (A : Option Addr) (n c : Nat) (w : World) (hn : n = xs.length) (hy0 : y0 = (k : Int)) (hk1 : 1 ≤ k) (hk2 : k + cts ENodeD.cnt xs ≤ 4611686018427387904) (h : Rep anyB w (.sl 78 4 n (cat ENodeD.c (mks ENodeD.mkv ENodeD.cnt xs k)) .nil) [.slice A n c]) :
    Calls Try.prog 128 #[.slice A n c, .int .i64 y0] w fun e w' => ∃ q : Int, e = .returned (.int .i64 q) ∧ q = ((k + cts ENodeD.cnt xs : Nat) : Int) ∧ Below w.heap.size w w' := by
  have hnb : n ≤ 9223372036854775807 := by have := cts_ge (cnt := ENodeD.cnt) (fun x => by simp only [ENodeD.cnt]; omega) xs; omega
  have HN := Lib.hid hn; clear hn
  have HK2 := Lib.hid hk2; clear hk2
  have HR := Lib.hid h; clear h
  have HY0 := Lib.hid hy0; clear hy0
  have hy1 : 1 ≤ y0 := by have := HY0.out; omega
  go_enter Try.func128, Try.ntmps128
  go_wp2
  go_loopw [1, 5] (fun kk ii wr => ∃ (j : Nat) (y : Int), j ≤ n ∧ ii = .int .i64 (j : Int) ∧ kk = .int .i64 y ∧ y = ((k + cts ENodeD.cnt (xs.take j) : Nat) : Int) ∧ Below w.heap.size w wr) (fun _ ii _ => n - (intOf ii).toNat)
  case atStart => exact ⟨0, y0, Nat.zero_le _, rfl, rfl, by simpa [cts] using HY0.out, Below.refl _ _⟩
  case round =>
    obtain ⟨j, y, hj, rfl, rfl, hy, hbel⟩ := hrel
    have hjn : j ≤ xs.length := by have := HN.out; omega
    have hk3 := cts_take_le (cnt := ENodeD.cnt) xs j
    have hyb : 1 ≤ y ∧ y ≤ 4611686018427387904 := by have := HK2.out; omega
    obtain ⟨hy2, hy3⟩ := hyb
    have HY := Lib.hid hy; clear hy hk3
    have H2 := Lib.hid hbel; clear hbel
    by_cases hlt : j < n
    · have hjx : j < xs.length := by have := HN.out; omega
      have hct := cts_take_succ (cnt := ENodeD.cnt) xs j hjx
      have hct2 := cts_take_le (cnt := ENodeD.cnt) xs (j + 1)
      obtain ⟨ad, ci, rfl, _, _, hrc, hl, hc⟩ := (HR.out.below H2.out).elem ENodeD.width j (by rw [mks_length]; exact hjx) (by rw [mks_length]; exact HN.out)
      rw [mks_get _ _ _ hjx] at hrc
      generalize xs[j] = x at *
      obtain ⟨A0, k0, A1, k1, rfl, s0, s1⟩ := ENodeD.open hrc
      clear hrc hl
      have HC := Lib.hid hc; clear hc
      have HCT := Lib.hid hct; clear hct
      have HCT2 := Lib.hid hct2; clear hct2
      have S0 := Lib.hid s0; clear s0
      have S1 := Lib.hid s1; clear s1
      have BW := Lib.hid (Below.refl wr.heap.size wr)
      have hc0 : World.cell? wr (ad.add (j * 4)) = some (.int .i64 (y)) := (HC.out 0 _ rfl).trans (congrArg some (i64_eq (show (ENodeD.mkv x ((k + cts ENodeD.cnt (xs.take j)))).me = y by have := HY.out; simp only [ENodeD.mkv, ENodeD.cnt]; omega)))
      have hc1 : World.cell? wr ⟨(ad.add (j * 4)).block, (ad.add (j * 4)).off + 1, none⟩ = some (.int .i64 (y + 1)) := (HC.out 1 _ rfl).trans (congrArg some (i64_eq (show (ENodeD.mkv x ((k + cts ENodeD.cnt (xs.take j)))).next = y + 1 by have := HY.out; simp only [ENodeD.mkv, ENodeD.cnt]; omega)))
      have hc2 : World.cell? wr ⟨(ad.add (j * 4)).block, (ad.add (j * 4)).off + 2, none⟩ = some _ := HC.out 2 _ rfl
      go_wp2_with fail
      refine (heldInstS_any x.insts ((k + cts ENodeD.cnt (xs.take j)) + 1 + 1) _ _ _ _ _ (mks_length _ _) (by have := HY.out;  first | omega | (simp only [ENodeD.cnt] <;> omega)) (by omega) (by have := HCT.out; have := HCT2.out; have := HK2.out; simp only [ENodeD.cnt] at *; omega) (S0.out.below BW.out)).mono ?_; rintro e v1 ⟨q0, rfl, hq, hb⟩
      have HQ0 := Lib.hid (show q0 = (((k + cts ENodeD.cnt (xs.take j)) + 1 + 1 + cts InstD.cnt x.insts : Nat) : Int) by rw [hq] <;> (first | omega | (simp only [ENodeD.cnt] <;> omega))); clear hq
      have hb0 : 1 ≤ q0 ∧ q0 ≤ 4611686018427387904 := by have := HQ0.out; have := HCT.out; have := HCT2.out; have := HK2.out; simp only [ENodeD.cnt] at *; omega
      obtain ⟨hb0a, hb0b⟩ := hb0
      have hb0c : 0 ≤ q0 := by omega
      obtain ⟨hbc, hbf⟩ := bcell hb
      have HC' := Lib.hid (cells_below HC.out hb)
      clear HC hbc hbf hc0 hc1 hc2
      have HC := Lib.hid HC'.out; clear HC'
      have BW' := Lib.hid (BW.out.trans (hb.mono BW.out.size)); clear BW
      have BW := Lib.hid BW'.out; clear BW'
      clear hb
      have hc3 : World.cell? v1 ⟨(ad.add (j * 4)).block, (ad.add (j * 4)).off + 3, none⟩ = some _ := HC.out 3 _ rfl
      go_wp2_with fail
      refine (heldLeadS_any x.leads ((k + cts ENodeD.cnt (xs.take j)) + 1 + 1 + cts InstD.cnt x.insts) _ _ _ _ _ (mks_length _ _) (by have := HY.out; have := HQ0.out;  first | omega | (simp only [ENodeD.cnt] <;> omega)) (by omega) (by have := HCT.out; have := HCT2.out; have := HK2.out; simp only [ENodeD.cnt] at *; omega) (S1.out.below BW.out)).mono ?_; rintro e v2 ⟨q1, rfl, hq, hb⟩
      have HQ1 := Lib.hid (show q1 = (((k + cts ENodeD.cnt (xs.take j)) + 1 + 1 + cts InstD.cnt x.insts + cts LeadD.cnt x.leads : Nat) : Int) by rw [hq] <;> (first | omega | (simp only [ENodeD.cnt] <;> omega))); clear hq
      have hb1 : 1 ≤ q1 ∧ q1 ≤ 4611686018427387904 := by have := HQ1.out; have := HCT.out; have := HCT2.out; have := HK2.out; simp only [ENodeD.cnt] at *; omega
      obtain ⟨hb1a, hb1b⟩ := hb1
      have hb1c : 0 ≤ q1 := by omega
      obtain ⟨hbc, hbf⟩ := bcell hb
      have HC' := Lib.hid (cells_below HC.out hb)
      clear HC hbc hbf hc3
      have HC := Lib.hid HC'.out; clear HC'
      have BW' := Lib.hid (BW.out.trans (hb.mono BW.out.size)); clear BW
      have BW := Lib.hid BW'.out; clear BW'
      clear hb
      go_wp2
      exact ⟨⟨j + 1, _, by omega, by go_num, rfl, by have := HCT.out; have := HY.out; have := HQ0.out; have := HQ1.out; simp only [ENodeD.cnt] at *; omega, H2.out.trans (Below.mono (by repeat' (first | with_reducible exact Below.refl _ _ | with_reducible exact BW.out | with_reducible refine Below.setCell ?_ ?_ _ | with_reducible refine Below.alloc ?_ ?_ _ | with_reducible refine Below.drew ?_ | (simp; done) | (simp; omega) | omega)) H2.out.size)⟩, by simp only [intOf]; omega⟩
    · have hjn2 : j = n := by omega
      subst hjn2
      have hy4 := HY.out
      rw [List.take_of_length_le (by have := HN.out; omega)] at hy4
      have H4 := Lib.hid hy4; clear hy4
      go_wp2
      go_ret
      exact ⟨_, rfl, H4.out, H2.out⟩

end Go.Proofs.Ytbdblfpepnoafaa
