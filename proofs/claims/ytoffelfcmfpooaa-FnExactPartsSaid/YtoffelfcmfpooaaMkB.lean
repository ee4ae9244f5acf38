/-
  The laws' helpers mark* and held*, greater elements. Conditions: as each contract names them.
-/
import Derived.Test.YtoffelfcmfpooaaMk
namespace Go.Proofs.Ytoffelfcmfpooaa
open Go.RowKit


set_option maxRecDepth 100000 in
set_option maxHeartbeats 1000000 in
theorem markInstS_any (xs : List InstD) (k : Nat) (y0 : Int) (base : Nat) (A : Option Addr) (n c : Nat) (F : List Nat) (w : World) (hn : n = xs.length) (hy0 : y0 = (k : Int)) (hk1 : 1 ≤ k) (hk2 : k + cts InstD.cnt xs ≤ 4611686018427387904) (hF : F.Nodup) (h : Own w base (.sl 40 16 n (cat InstD.c xs) .nil) [.slice A n c] F) :
    Calls Try.prog 14 #[.slice A n c, .int .i64 y0] w fun e w' => ∃ q : Int, e = .returned (.int .i64 q) ∧ q = ((k + cts InstD.cnt xs : Nat) : Int) ∧ Own w' base (.sl 40 16 n (cat InstD.c (mks InstD.mkv InstD.cnt xs k)) .nil) [.slice A n c] F ∧ Mod F w w' := by
  have HN := Lib.hid hn; clear hn
  have HF := Lib.hid hF; clear hF
  have HK2 := Lib.hid hk2; clear hk2
  have hnb := own_len h
  have H0 := Lib.hid h; clear h
  have HY0 := Lib.hid hy0; clear hy0
  have hy1 : 1 ≤ y0 := by have := HY0.out; omega
  go_enter Try.func14, Try.ntmps14
  go_wp2
  go_loopw [1, 5] (fun kk ii wr => ∃ (j : Nat) (y : Int), j ≤ n ∧ ii = .int .i64 (j : Int) ∧ kk = .int .i64 y ∧ y = ((k + cts InstD.cnt (xs.take j) : Nat) : Int) ∧ Own wr base (.sl 40 16 n (cat InstD.c (mks InstD.mkv InstD.cnt (xs.take j) k ++ xs.drop j)) .nil) [.slice A n c] F ∧ Mod F w wr) (fun _ ii _ => n - (intOf ii).toNat)
  case atStart => exact ⟨0, y0, Nat.zero_le _, rfl, rfl, by simpa [cts] using HY0.out, by simpa [mks] using H0.out, Mod.refl _ _⟩
  case round =>
    obtain ⟨j, y, hj, rfl, rfl, hy, hown, hmod⟩ := hrel
    have hjn : j ≤ xs.length := by have := HN.out; omega
    have hk3 := cts_take_le (cnt := InstD.cnt) xs j
    have hyb : 1 ≤ y ∧ y ≤ 4611686018427387904 := by have := HK2.out; omega
    obtain ⟨hy2, hy3⟩ := hyb
    have HY := Lib.hid hy; clear hy hk3
    have MD := Lib.hid hmod; clear hmod
    by_cases hlt : j < n
    · have hjx : j < xs.length := by have := HN.out; omega
      have hct := cts_take_succ (cnt := InstD.cnt) xs j hjx
      have hct2 := cts_take_le (cnt := InstD.cnt) xs (j + 1)
      have hms := mks_take_succ (mk := InstD.mkv) (cnt := InstD.cnt) xs k j hjx
      rw [mks_take_drop (mk := InstD.mkv) (cnt := InstD.cnt) xs k j hjx] at hown
      obtain ⟨g, rfl⟩ := own_sl hown (by omega)
      obtain ⟨c1, c2, c3, sp, G1, G2, G3, rfl, o1, o2, o3, hl1, hbg, hblk, hre⟩ := own_round InstD.width hown
      rw [mks_length, List.length_take, Nat.min_eq_left hjn] at hl1
      generalize xs[j] = x at *
      obtain ⟨hg1, hnd1, hnd2, hd12, hd13, hd23⟩ := nodup3 HF.out
      obtain ⟨A0, k0, A1, k1, F0, F1, rfl, rfl, s0, s1⟩ := InstD.openO o2
      clear o2 hown
      have O1 := Lib.hid o1; clear o1
      have O3 := Lib.hid o3; clear o3
      have HL := Lib.hid hl1; clear hl1
      have LB := Lib.hid hblk; clear hblk
      have HRE := Lib.hid hre; clear hre
      have HCT := Lib.hid hct; clear hct
      have HCT2 := Lib.hid hct2; clear hct2
      have HMS := Lib.hid hms; clear hms
      have HG := Lib.hid hg1; clear hg1
      have D12 := Lib.hid hd12; clear hd12
      have D13 := Lib.hid hd13; clear hd13
      have D23 := Lib.hid hd23; clear hd23
      have ND2 := Lib.hid hnd2; clear hnd2
      have ND1 := Lib.hid hnd1; clear hnd1
      have S0 := Lib.hid s0; clear s0
      have S1 := Lib.hid s1; clear s1
      have MR := Lib.hid (Mod.refl (g :: (F0 ++ F1)) wr)
      have hfz : ∀ p, World.frozen? wr ⟨g, p, none⟩ = false := fun p => LB.out.frozen p
      have hc0 : ∃ u, World.cell? wr ⟨g, j * 16, none⟩ = some u := ⟨_, blk_get LB.out HL.out (f := 0) rfl⟩
      obtain ⟨u0, hc0⟩ := hc0
      have hc1 : ∃ u, World.cell? wr ⟨g, j * 16 + 1, none⟩ = some u := ⟨_, blk_get LB.out HL.out (f := 1) rfl⟩
      obtain ⟨u1, hc1⟩ := hc1
      have hc2 : ∃ u, World.cell? wr ⟨g, j * 16 + 2, none⟩ = some u := ⟨_, blk_get LB.out HL.out (f := 2) rfl⟩
      obtain ⟨u2, hc2⟩ := hc2
      have hc3 : ∃ u, World.cell? wr ⟨g, j * 16 + 3, none⟩ = some u := ⟨_, blk_get LB.out HL.out (f := 3) rfl⟩
      obtain ⟨u3, hc3⟩ := hc3
      have hc4 : ∃ u, World.cell? wr ⟨g, j * 16 + 4, none⟩ = some u := ⟨_, blk_get LB.out HL.out (f := 4) rfl⟩
      obtain ⟨u4, hc4⟩ := hc4
      have hc5 : ∃ u, World.cell? wr ⟨g, j * 16 + 5, none⟩ = some u := ⟨_, blk_get LB.out HL.out (f := 5) rfl⟩
      obtain ⟨u5, hc5⟩ := hc5
      have hc6 : ∃ u, World.cell? wr ⟨g, j * 16 + 6, none⟩ = some u := ⟨_, blk_get LB.out HL.out (f := 6) rfl⟩
      obtain ⟨u6, hc6⟩ := hc6
      have hc7 : ∃ u, World.cell? wr ⟨g, j * 16 + 7, none⟩ = some u := ⟨_, blk_get LB.out HL.out (f := 7) rfl⟩
      obtain ⟨u7, hc7⟩ := hc7
      go_wp2_with fail
      refine (markText_i (y + 1 + 1 + 1 + 1 + 1 + 1 + 1 + 1) _ (by omega) (by omega)).mono ?_; rintro e v1 ⟨rfl, hb⟩
      have lb := Blk.below (blk_put (blk_put (blk_put (blk_put (blk_put (blk_put (blk_put (blk_put LB.out HL.out (f := 0) _ (by simp)) HL.out (f := 1) _ (by simp)) HL.out (f := 2) _ (by simp)) HL.out (f := 3) _ (by simp)) HL.out (f := 4) _ (by simp)) HL.out (f := 5) _ (by simp)) HL.out (f := 6) _ (by simp)) HL.out (f := 7) _ (by simp)) hb
      have ms : Mod [g] wr v1 := Mod.trans (by repeat' (first | with_reducible exact Mod.refl _ _ | with_reducible refine Mod.setCell ?_ ?_ _ | with_reducible refine Mod.drew ?_ | (simp; done) | (simp; omega) | omega)) (Mod.of_below hb _)
      have mr : Mod (g :: (F0 ++ F1)) wr v1 := MR.out.trans (ms.mono (by simp))
      have s0 := S0.out.mod1 ms (fun b hb e => HG.out b (by simp [hb]) (by simpa using e))
      have s1 := S1.out.mod1 ms (fun b hb e => HG.out b (by simp [hb]) (by simpa using e))
      have HCL := Lib.hid (And.intro HL.out trivial); clear HCL
      clear hc0 hc1 hc2 hc3 hc4 hc5 hc6 hc7 hfz
      have LB' := Lib.hid lb; clear LB lb
      have LB := Lib.hid LB'.out; clear LB'
      have MR' := Lib.hid mr; clear MR mr
      have MR := Lib.hid MR'.out; clear MR'
      have S0' := Lib.hid s0; clear S0 s0
      have S0 := Lib.hid S0'.out; clear S0'
      have S1' := Lib.hid s1; clear S1 s1
      have S1 := Lib.hid S1'.out; clear S1'
      clear hb ms
      have hfz : ∀ p, World.frozen? v1 ⟨g, p, none⟩ = false := fun p => LB.out.frozen p
      have hc8 : ∃ u, World.cell? v1 ⟨g, j * 16 + 8, none⟩ = some u := ⟨_, blk_get LB.out HL.out (f := 8) rfl⟩
      obtain ⟨u8, hc8⟩ := hc8
      go_wp2_with fail
      refine (markText_i (y + 1 + 1 + 1 + 1 + 1 + 1 + 1 + 1 + 1) _ (by omega) (by omega)).mono ?_; rintro e v2 ⟨rfl, hb⟩
      have lb := Blk.below (blk_put LB.out HL.out (f := 8) _ (by simp)) hb
      have ms : Mod [g] v1 v2 := Mod.trans (by repeat' (first | with_reducible exact Mod.refl _ _ | with_reducible refine Mod.setCell ?_ ?_ _ | with_reducible refine Mod.drew ?_ | (simp; done) | (simp; omega) | omega)) (Mod.of_below hb _)
      have mr : Mod (g :: (F0 ++ F1)) wr v2 := MR.out.trans (ms.mono (by simp))
      have s0 := S0.out.mod1 ms (fun b hb e => HG.out b (by simp [hb]) (by simpa using e))
      have s1 := S1.out.mod1 ms (fun b hb e => HG.out b (by simp [hb]) (by simpa using e))
      have HCL := Lib.hid (And.intro HL.out trivial); clear HCL
      clear hc8 hfz
      have LB' := Lib.hid lb; clear LB lb
      have LB := Lib.hid LB'.out; clear LB'
      have MR' := Lib.hid mr; clear MR mr
      have MR := Lib.hid MR'.out; clear MR'
      have S0' := Lib.hid s0; clear S0 s0
      have S0 := Lib.hid S0'.out; clear S0'
      have S1' := Lib.hid s1; clear S1 s1
      have S1 := Lib.hid S1'.out; clear S1'
      clear hb ms
      have hfz : ∀ p, World.frozen? v2 ⟨g, p, none⟩ = false := fun p => LB.out.frozen p
      have hc9 : ∃ u, World.cell? v2 ⟨g, j * 16 + 9, none⟩ = some u := ⟨_, blk_get LB.out HL.out (f := 9) rfl⟩
      obtain ⟨u9, hc9⟩ := hc9
      go_wp2_with fail
      refine (markText_i (y + 1 + 1 + 1 + 1 + 1 + 1 + 1 + 1 + 1 + 1) _ (by omega) (by omega)).mono ?_; rintro e v3 ⟨rfl, hb⟩
      have lb := Blk.below (blk_put LB.out HL.out (f := 9) _ (by simp)) hb
      have ms : Mod [g] v2 v3 := Mod.trans (by repeat' (first | with_reducible exact Mod.refl _ _ | with_reducible refine Mod.setCell ?_ ?_ _ | with_reducible refine Mod.drew ?_ | (simp; done) | (simp; omega) | omega)) (Mod.of_below hb _)
      have mr : Mod (g :: (F0 ++ F1)) wr v3 := MR.out.trans (ms.mono (by simp))
      have s0 := S0.out.mod1 ms (fun b hb e => HG.out b (by simp [hb]) (by simpa using e))
      have s1 := S1.out.mod1 ms (fun b hb e => HG.out b (by simp [hb]) (by simpa using e))
      have HCL := Lib.hid (And.intro HL.out trivial); clear HCL
      clear hc9 hfz
      have LB' := Lib.hid lb; clear LB lb
      have LB := Lib.hid LB'.out; clear LB'
      have MR' := Lib.hid mr; clear MR mr
      have MR := Lib.hid MR'.out; clear MR'
      have S0' := Lib.hid s0; clear S0 s0
      have S0 := Lib.hid S0'.out; clear S0'
      have S1' := Lib.hid s1; clear S1 s1
      have S1 := Lib.hid S1'.out; clear S1'
      clear hb ms
      have hfz : ∀ p, World.frozen? v3 ⟨g, p, none⟩ = false := fun p => LB.out.frozen p
      have hc10 : ∃ u, World.cell? v3 ⟨g, j * 16 + 10, none⟩ = some u := ⟨_, blk_get LB.out HL.out (f := 10) rfl⟩
      obtain ⟨u10, hc10⟩ := hc10
      have hc11 : ∃ u, World.cell? v3 ⟨g, j * 16 + 11, none⟩ = some u := ⟨_, blk_get LB.out HL.out (f := 11) rfl⟩
      obtain ⟨u11, hc11⟩ := hc11
      have hc12 : World.cell? v3 ⟨g, j * 16 + 12, none⟩ = some (.slice A0 x.cmd.chunks.length k0) := blk_get LB.out HL.out (f := 12) rfl
      go_wp2_with fail
      refine (markStringS_any' x.cmd.chunks ((k + cts InstD.cnt (xs.take j)) + IdD.cnt x.id + 1 + 1 + 1 + 1 + 1 + 1 + 1 + 1 + 1 + 1) _ base _ _ _ F0 _ rfl (by have := HY.out;  first | omega | (simp only [InstD.cnt, IdD.cnt, CmdD.cnt] <;> omega)) (by omega) (by have := HCT.out; have := HCT2.out; have := HK2.out; simp only [InstD.cnt, IdD.cnt, CmdD.cnt] at *; omega) (nodup_l ND2.out) (S0.out.mod1 (F' := [g]) (by repeat' (first | with_reducible exact Mod.refl _ _ | with_reducible refine Mod.setCell ?_ ?_ _ | with_reducible refine Mod.drew ?_ | (simp; done) | (simp; omega) | omega)) (fun b hb e => HG.out b (by simp [hb]) (by simpa using e)))).mono ?_; rintro e v4 ⟨q0, rfl, hq, ho, hm⟩
      have lb := Blk.mod (blk_put (blk_put LB.out HL.out (f := 10) _ (by simp)) HL.out (f := 11) _ (by simp)) hm (fun e => HG.out g (by simp [e]) rfl)
      skip
      have mr : Mod (g :: (F0 ++ F1)) wr v4 := MR.out.trans (Mod.trans (Mod.mono (F := [g]) (by repeat' (first | with_reducible exact Mod.refl _ _ | with_reducible refine Mod.setCell ?_ ?_ _ | with_reducible refine Mod.drew ?_ | (simp; done) | (simp; omega) | omega)) (by simp)) (hm.mono (by simp; intro b hb; simp [hb])))
      have s0 := ho
      have s1 := (S1.out.mod1 (F' := [g]) (by repeat' (first | with_reducible exact Mod.refl _ _ | with_reducible refine Mod.setCell ?_ ?_ _ | with_reducible refine Mod.drew ?_ | (simp; done) | (simp; omega) | omega)) (fun b hb e => HG.out b (by simp [hb]) (by simpa using e))).mod1 hm (fun b hb e => disj ND2.out b e hb)
      have HCL := Lib.hid (And.intro HL.out trivial); clear HCL
      clear hc10 hc11 hc12 hfz
      have LB' := Lib.hid lb; clear LB lb
      have LB := Lib.hid LB'.out; clear LB'
      have MR' := Lib.hid mr; clear MR mr
      have MR := Lib.hid MR'.out; clear MR'
      have S0' := Lib.hid s0; clear S0 s0
      have S0 := Lib.hid S0'.out; clear S0'
      have S1' := Lib.hid s1; clear S1 s1
      have S1 := Lib.hid S1'.out; clear S1'
      have HQ0 := Lib.hid (show q0 = (((k + cts InstD.cnt (xs.take j)) + 1 + 1 + 1 + 1 + 1 + 1 + 1 + 1 + 1 + 1 + 1 + 1 + cts (fun _ => 1) x.cmd.chunks : Nat) : Int) by rw [hq] <;> (first | omega | (simp only [InstD.cnt, IdD.cnt, CmdD.cnt] <;> omega))); clear hq ho hm
      have hb0 : 1 ≤ q0 ∧ q0 ≤ 4611686018427387904 := by have := HQ0.out; have := HCT.out; have := HCT2.out; have := HK2.out; simp only [InstD.cnt, IdD.cnt, CmdD.cnt] at *; omega
      obtain ⟨hb0a, hb0b⟩ := hb0
      have hfz : ∀ p, World.frozen? v4 ⟨g, p, none⟩ = false := fun p => LB.out.frozen p
      have hc13 : ∃ u, World.cell? v4 ⟨g, j * 16 + 13, none⟩ = some u := ⟨_, blk_get LB.out HL.out (f := 13) rfl⟩
      obtain ⟨u13, hc13⟩ := hc13
      have hc14 : World.cell? v4 ⟨g, j * 16 + 14, none⟩ = some (.slice A1 x.deps.length k1) := blk_get LB.out HL.out (f := 14) rfl
      go_wp2_with fail
      refine (markIdS_any x.deps ((k + cts InstD.cnt (xs.take j)) + IdD.cnt x.id + 1 + 1 + 1 + CmdD.cnt x.cmd + 1) _ base _ _ _ F1 _ rfl (by have := HY.out; have := HQ0.out;  first | omega | (simp only [InstD.cnt, IdD.cnt, CmdD.cnt] <;> omega)) (by omega) (by have := HCT.out; have := HCT2.out; have := HK2.out; simp only [InstD.cnt, IdD.cnt, CmdD.cnt] at *; omega) (nodup_r ND2.out) (S1.out.mod1 (F' := [g]) (by repeat' (first | with_reducible exact Mod.refl _ _ | with_reducible refine Mod.setCell ?_ ?_ _ | with_reducible refine Mod.drew ?_ | (simp; done) | (simp; omega) | omega)) (fun b hb e => HG.out b (by simp [hb]) (by simpa using e)))).mono ?_; rintro e v5 ⟨q1, rfl, hq, ho, hm⟩
      have lb := Blk.mod (blk_put LB.out HL.out (f := 13) _ (by simp)) hm (fun e => HG.out g (by simp [e]) rfl)
      skip
      have mr : Mod (g :: (F0 ++ F1)) wr v5 := MR.out.trans (Mod.trans (Mod.mono (F := [g]) (by repeat' (first | with_reducible exact Mod.refl _ _ | with_reducible refine Mod.setCell ?_ ?_ _ | with_reducible refine Mod.drew ?_ | (simp; done) | (simp; omega) | omega)) (by simp)) (hm.mono (by simp; intro b hb; simp [hb])))
      have s0 := (S0.out.mod1 (F' := [g]) (by repeat' (first | with_reducible exact Mod.refl _ _ | with_reducible refine Mod.setCell ?_ ?_ _ | with_reducible refine Mod.drew ?_ | (simp; done) | (simp; omega) | omega)) (fun b hb e => HG.out b (by simp [hb]) (by simpa using e))).mod1 hm (fun b hb e => disj ND2.out b hb e)
      have s1 := ho
      have HCL := Lib.hid (And.intro HL.out trivial); clear HCL
      clear hc13 hc14 hfz
      have LB' := Lib.hid lb; clear LB lb
      have LB := Lib.hid LB'.out; clear LB'
      have MR' := Lib.hid mr; clear MR mr
      have MR := Lib.hid MR'.out; clear MR'
      have S0' := Lib.hid s0; clear S0 s0
      have S0 := Lib.hid S0'.out; clear S0'
      have S1' := Lib.hid s1; clear S1 s1
      have S1 := Lib.hid S1'.out; clear S1'
      have HQ1 := Lib.hid (show q1 = (((k + cts InstD.cnt (xs.take j)) + 1 + 1 + 1 + 1 + 1 + 1 + 1 + 1 + 1 + 1 + 1 + 1 + cts (fun _ => 1) x.cmd.chunks + 1 + cts IdD.cnt x.deps : Nat) : Int) by rw [hq] <;> (first | omega | (simp only [InstD.cnt, IdD.cnt, CmdD.cnt] <;> omega))); clear hq ho hm
      have hb1 : 1 ≤ q1 ∧ q1 ≤ 4611686018427387904 := by have := HQ1.out; have := HCT.out; have := HCT2.out; have := HK2.out; simp only [InstD.cnt, IdD.cnt, CmdD.cnt] at *; omega
      obtain ⟨hb1a, hb1b⟩ := hb1
      have hfz : ∀ p, World.frozen? v5 ⟨g, p, none⟩ = false := fun p => LB.out.frozen p
      have hc15 : ∃ u, World.cell? v5 ⟨g, j * 16 + 15, none⟩ = some u := ⟨_, blk_get LB.out HL.out (f := 15) rfl⟩
      obtain ⟨u15, hc15⟩ := hc15
      go_wp2
      refine ⟨⟨j + 1, _, by omega, by go_num, rfl, ?_, ?_, ?_⟩, by simp only [intOf]; omega⟩
      · have := HCT.out; have := HY.out; have := HQ0.out; have := HQ1.out; simp only [InstD.cnt, IdD.cnt, CmdD.cnt] at *; omega
      · rw [HMS.out]
        refine HRE.out _ _ _ (O1.out.mod1 (F' := (g :: (F0 ++ F1))) ?_ (fun b hb e => ?_)) (Own.castL (InstD.shutO (own_cast (S0.out.mod1 (F' := [g]) (by repeat' (first | with_reducible exact Mod.refl _ _ | with_reducible refine Mod.setCell ?_ ?_ _ | with_reducible refine Mod.drew ?_ | (simp; done) | (simp; omega) | omega)) (fun b hb e => HG.out b (by simp [hb]) (by simpa using e))) (mks_length _ _).symm) (own_cast (S1.out.mod1 (F' := [g]) (by repeat' (first | with_reducible exact Mod.refl _ _ | with_reducible refine Mod.setCell ?_ ?_ _ | with_reducible refine Mod.drew ?_ | (simp; done) | (simp; omega) | omega)) (fun b hb e => HG.out b (by simp [hb]) (by simpa using e))) (mks_length _ _).symm)) (cons_eq (i64_eq (show (_ : Int) = (InstD.mkv x ((k + cts InstD.cnt (xs.take j)))).id.rep by have := HY.out; have := HQ0.out; have := HQ1.out; simp only [InstD.mkv, InstD.cnt, IdD.mkv, IdD.cnt, CmdD.mkv, CmdD.cnt]; omega)) (cons_eq (i64_eq (show (_ : Int) = (InstD.mkv x ((k + cts InstD.cnt (xs.take j)))).id.slot by have := HY.out; have := HQ0.out; have := HQ1.out; simp only [InstD.mkv, InstD.cnt, IdD.mkv, IdD.cnt, CmdD.mkv, CmdD.cnt]; omega)) (cons_eq (i64_eq (show (_ : Int) = (InstD.mkv x ((k + cts InstD.cnt (xs.take j)))).bal by have := HY.out; have := HQ0.out; have := HQ1.out; simp only [InstD.mkv, InstD.cnt, IdD.mkv, IdD.cnt, CmdD.mkv, CmdD.cnt]; omega)) (cons_eq (i64_eq (show (_ : Int) = (InstD.mkv x ((k + cts InstD.cnt (xs.take j)))).vbal by have := HY.out; have := HQ0.out; have := HQ1.out; simp only [InstD.mkv, InstD.cnt, IdD.mkv, IdD.cnt, CmdD.mkv, CmdD.cnt]; omega)) (cons_eq (i64_eq (show (_ : Int) = (InstD.mkv x ((k + cts InstD.cnt (xs.take j)))).status by have := HY.out; have := HQ0.out; have := HQ1.out; simp only [InstD.mkv, InstD.cnt, IdD.mkv, IdD.cnt, CmdD.mkv, CmdD.cnt]; omega)) (cons_eq (i64_eq (show (_ : Int) = (InstD.mkv x ((k + cts InstD.cnt (xs.take j)))).cmd.kind by have := HY.out; have := HQ0.out; have := HQ1.out; simp only [InstD.mkv, InstD.cnt, IdD.mkv, IdD.cnt, CmdD.mkv, CmdD.cnt]; omega)) (cons_eq (i64_eq (show (_ : Int) = (InstD.mkv x ((k + cts InstD.cnt (xs.take j)))).cmd.client by have := HY.out; have := HQ0.out; have := HQ1.out; simp only [InstD.mkv, InstD.cnt, IdD.mkv, IdD.cnt, CmdD.mkv, CmdD.cnt]; omega)) (cons_eq (i64_eq (show (_ : Int) = (InstD.mkv x ((k + cts InstD.cnt (xs.take j)))).cmd.no by have := HY.out; have := HQ0.out; have := HQ1.out; simp only [InstD.mkv, InstD.cnt, IdD.mkv, IdD.cnt, CmdD.mkv, CmdD.cnt]; omega)) (cons_eq (strb_eq (show markL (_ : Nat) = (InstD.mkv x ((k + cts InstD.cnt (xs.take j)))).cmd.set by have := HY.out; have := HQ0.out; have := HQ1.out; simp only [InstD.mkv, InstD.cnt, IdD.mkv, IdD.cnt, CmdD.mkv, CmdD.cnt]; congr 1; omega)) (cons_eq (strb_eq (show markL (_ : Nat) = (InstD.mkv x ((k + cts InstD.cnt (xs.take j)))).cmd.name by have := HY.out; have := HQ0.out; have := HQ1.out; simp only [InstD.mkv, InstD.cnt, IdD.mkv, IdD.cnt, CmdD.mkv, CmdD.cnt]; congr 1; omega)) (cons_eq (strb_eq (show markL (_ : Nat) = (InstD.mkv x ((k + cts InstD.cnt (xs.take j)))).cmd.tag by have := HY.out; have := HQ0.out; have := HQ1.out; simp only [InstD.mkv, InstD.cnt, IdD.mkv, IdD.cnt, CmdD.mkv, CmdD.cnt]; congr 1; omega)) (cons_eq (i64_eq (show (_ : Int) = (InstD.mkv x ((k + cts InstD.cnt (xs.take j)))).cmd.n by have := HY.out; have := HQ0.out; have := HQ1.out; simp only [InstD.mkv, InstD.cnt, IdD.mkv, IdD.cnt, CmdD.mkv, CmdD.cnt]; omega)) (cons_eq (rfl) (cons_eq (i64_eq (show (_ : Int) = (InstD.mkv x ((k + cts InstD.cnt (xs.take j)))).seq by have := HY.out; have := HQ0.out; have := HQ1.out; simp only [InstD.mkv, InstD.cnt, IdD.mkv, IdD.cnt, CmdD.mkv, CmdD.cnt]; omega)) (cons_eq (rfl) (cons_eq (bool_eq (show ((q1) % 3 == (0 : Int)) = (InstD.mkv x ((k + cts InstD.cnt (xs.take j)))).same by have := HY.out; have := HQ0.out; have := HQ1.out; simp only [InstD.mkv, InstD.cnt, IdD.mkv, IdD.cnt, CmdD.mkv, CmdD.cnt]; exact mod3 (by omega))) rfl))))))))))))))))) (O3.out.mod1 (F' := (g :: (F0 ++ F1))) ?_ (fun b hb e => ?_)) (blk_put LB.out HL.out (f := 15) _ (by simp))
        · exact Mod.trans MR.out (Mod.mono (F := [g]) (by repeat' (first | with_reducible exact Mod.refl _ _ | with_reducible refine Mod.setCell ?_ ?_ _ | with_reducible refine Mod.drew ?_ | (simp; done) | (simp; omega) | omega)) (by simp))
        · rcases List.mem_cons.1 e with e | e
          · exact HG.out b (by simp [hb]) e
          · exact D12.out b hb e
        · exact Mod.trans MR.out (Mod.mono (F := [g]) (by repeat' (first | with_reducible exact Mod.refl _ _ | with_reducible refine Mod.setCell ?_ ?_ _ | with_reducible refine Mod.drew ?_ | (simp; done) | (simp; omega) | omega)) (by simp))
        · rcases List.mem_cons.1 e with e | e
          · exact HG.out b (by simp [hb]) e
          · exact D23.out b e hb
      · exact MD.out.trans (Mod.mono (F := (g :: (F0 ++ F1))) (Mod.trans MR.out (Mod.mono (F := [g]) (by repeat' (first | with_reducible exact Mod.refl _ _ | with_reducible refine Mod.setCell ?_ ?_ _ | with_reducible refine Mod.drew ?_ | (simp; done) | (simp; omega) | omega)) (by simp))) sub_mid)
    · have hjn2 : j = n := by omega
      subst hjn2
      rw [List.take_of_length_le (by have := HN.out; omega), List.drop_of_length_le (by have := HN.out; omega), List.append_nil] at hown
      have H1 := Lib.hid hown; clear hown
      have hy4 := HY.out
      rw [List.take_of_length_le (by have := HN.out; omega)] at hy4
      have H4 := Lib.hid hy4; clear hy4
      go_wp2
      go_ret
      exact ⟨_, rfl, H4.out, H1.out, MD.out⟩


set_option maxRecDepth 100000 in
set_option maxHeartbeats 1000000 in
theorem heldInstS_any (xs : List InstD) (k : Nat) (y0 : Int) (A : Option Addr) (n c : Nat) (w : World) (hn : n = xs.length) (hy0 : y0 = (k : Int)) (hk1 : 1 ≤ k) (hk2 : k + cts InstD.cnt xs ≤ 4611686018427387904) (h : Rep anyB w (.sl 40 16 n (cat InstD.c (mks InstD.mkv InstD.cnt xs k)) .nil) [.slice A n c]) :
    Calls Try.prog 16 #[.slice A n c, .int .i64 y0] w fun e w' => ∃ q : Int, e = .returned (.int .i64 q) ∧ q = ((k + cts InstD.cnt xs : Nat) : Int) ∧ Below w.heap.size w w' := by
  have hnb : n ≤ 9223372036854775807 := by have := cts_ge (cnt := InstD.cnt) (fun x => by simp only [InstD.cnt, IdD.cnt, CmdD.cnt]; omega) xs; omega
  have HN := Lib.hid hn; clear hn
  have HK2 := Lib.hid hk2; clear hk2
  have HR := Lib.hid h; clear h
  have HY0 := Lib.hid hy0; clear hy0
  have hy1 : 1 ≤ y0 := by have := HY0.out; omega
  go_enter Try.func16, Try.ntmps16
  go_wp2
  go_loopw [1, 5] (fun kk ii wr => ∃ (j : Nat) (y : Int), j ≤ n ∧ ii = .int .i64 (j : Int) ∧ kk = .int .i64 y ∧ y = ((k + cts InstD.cnt (xs.take j) : Nat) : Int) ∧ Below w.heap.size w wr) (fun _ ii _ => n - (intOf ii).toNat)
  case atStart => exact ⟨0, y0, Nat.zero_le _, rfl, rfl, by simpa [cts] using HY0.out, Below.refl _ _⟩
  case round =>
    obtain ⟨j, y, hj, rfl, rfl, hy, hbel⟩ := hrel
    have hjn : j ≤ xs.length := by have := HN.out; omega
    have hk3 := cts_take_le (cnt := InstD.cnt) xs j
    have hyb : 1 ≤ y ∧ y ≤ 4611686018427387904 := by have := HK2.out; omega
    obtain ⟨hy2, hy3⟩ := hyb
    have HY := Lib.hid hy; clear hy hk3
    have H2 := Lib.hid hbel; clear hbel
    by_cases hlt : j < n
    · have hjx : j < xs.length := by have := HN.out; omega
      have hct := cts_take_succ (cnt := InstD.cnt) xs j hjx
      have hct2 := cts_take_le (cnt := InstD.cnt) xs (j + 1)
      obtain ⟨ad, ci, rfl, _, _, hrc, hl, hc⟩ := (HR.out.below H2.out).elem InstD.width j (by rw [mks_length]; exact hjx) (by rw [mks_length]; exact HN.out)
      rw [mks_get _ _ _ hjx] at hrc
      generalize xs[j] = x at *
      obtain ⟨A0, k0, A1, k1, rfl, s0, s1⟩ := InstD.open hrc
      clear hrc hl
      have HC := Lib.hid hc; clear hc
      have HCT := Lib.hid hct; clear hct
      have HCT2 := Lib.hid hct2; clear hct2
      have S0 := Lib.hid s0; clear s0
      have S1 := Lib.hid s1; clear s1
      have BW := Lib.hid (Below.refl wr.heap.size wr)
      have hc0 : World.cell? wr (ad.add (j * 16)) = some (.int .i64 (y)) := (HC.out 0 _ rfl).trans (congrArg some (i64_eq (show (InstD.mkv x ((k + cts InstD.cnt (xs.take j)))).id.rep = y by have := HY.out; simp only [InstD.mkv, InstD.cnt, IdD.mkv, IdD.cnt, CmdD.mkv, CmdD.cnt]; omega)))
      have hc1 : World.cell? wr ⟨(ad.add (j * 16)).block, (ad.add (j * 16)).off + 1, none⟩ = some (.int .i64 (y + 1)) := (HC.out 1 _ rfl).trans (congrArg some (i64_eq (show (InstD.mkv x ((k + cts InstD.cnt (xs.take j)))).id.slot = y + 1 by have := HY.out; simp only [InstD.mkv, InstD.cnt, IdD.mkv, IdD.cnt, CmdD.mkv, CmdD.cnt]; omega)))
      have hc2 : World.cell? wr ⟨(ad.add (j * 16)).block, (ad.add (j * 16)).off + 2, none⟩ = some (.int .i64 (y + 1 + 1)) := (HC.out 2 _ rfl).trans (congrArg some (i64_eq (show (InstD.mkv x ((k + cts InstD.cnt (xs.take j)))).bal = y + 1 + 1 by have := HY.out; simp only [InstD.mkv, InstD.cnt, IdD.mkv, IdD.cnt, CmdD.mkv, CmdD.cnt]; omega)))
      have hc3 : World.cell? wr ⟨(ad.add (j * 16)).block, (ad.add (j * 16)).off + 3, none⟩ = some (.int .i64 (y + 1 + 1 + 1)) := (HC.out 3 _ rfl).trans (congrArg some (i64_eq (show (InstD.mkv x ((k + cts InstD.cnt (xs.take j)))).vbal = y + 1 + 1 + 1 by have := HY.out; simp only [InstD.mkv, InstD.cnt, IdD.mkv, IdD.cnt, CmdD.mkv, CmdD.cnt]; omega)))
      have hc4 : World.cell? wr ⟨(ad.add (j * 16)).block, (ad.add (j * 16)).off + 4, none⟩ = some (.int .i64 (y + 1 + 1 + 1 + 1)) := (HC.out 4 _ rfl).trans (congrArg some (i64_eq (show (InstD.mkv x ((k + cts InstD.cnt (xs.take j)))).status = y + 1 + 1 + 1 + 1 by have := HY.out; simp only [InstD.mkv, InstD.cnt, IdD.mkv, IdD.cnt, CmdD.mkv, CmdD.cnt]; omega)))
      have hc5 : World.cell? wr ⟨(ad.add (j * 16)).block, (ad.add (j * 16)).off + 5, none⟩ = some (.int .i64 (y + 1 + 1 + 1 + 1 + 1)) := (HC.out 5 _ rfl).trans (congrArg some (i64_eq (show (InstD.mkv x ((k + cts InstD.cnt (xs.take j)))).cmd.kind = y + 1 + 1 + 1 + 1 + 1 by have := HY.out; simp only [InstD.mkv, InstD.cnt, IdD.mkv, IdD.cnt, CmdD.mkv, CmdD.cnt]; omega)))
      have hc6 : World.cell? wr ⟨(ad.add (j * 16)).block, (ad.add (j * 16)).off + 6, none⟩ = some (.int .i64 (y + 1 + 1 + 1 + 1 + 1 + 1)) := (HC.out 6 _ rfl).trans (congrArg some (i64_eq (show (InstD.mkv x ((k + cts InstD.cnt (xs.take j)))).cmd.client = y + 1 + 1 + 1 + 1 + 1 + 1 by have := HY.out; simp only [InstD.mkv, InstD.cnt, IdD.mkv, IdD.cnt, CmdD.mkv, CmdD.cnt]; omega)))
      have hc7 : World.cell? wr ⟨(ad.add (j * 16)).block, (ad.add (j * 16)).off + 7, none⟩ = some (.int .i64 (y + 1 + 1 + 1 + 1 + 1 + 1 + 1)) := (HC.out 7 _ rfl).trans (congrArg some (i64_eq (show (InstD.mkv x ((k + cts InstD.cnt (xs.take j)))).cmd.no = y + 1 + 1 + 1 + 1 + 1 + 1 + 1 by have := HY.out; simp only [InstD.mkv, InstD.cnt, IdD.mkv, IdD.cnt, CmdD.mkv, CmdD.cnt]; omega)))
      have hc8 : World.cell? wr ⟨(ad.add (j * 16)).block, (ad.add (j * 16)).off + 8, none⟩ = some (.string (bs (markL (y + 1 + 1 + 1 + 1 + 1 + 1 + 1 + 1).toNat))) := (HC.out 8 _ rfl).trans (congrArg some (strb_eq (show (InstD.mkv x ((k + cts InstD.cnt (xs.take j)))).cmd.set = markL (y + 1 + 1 + 1 + 1 + 1 + 1 + 1 + 1).toNat by have := HY.out; simp only [InstD.mkv, InstD.cnt, IdD.mkv, IdD.cnt, CmdD.mkv, CmdD.cnt]; congr 1; omega)))
      go_wp2
      refine wp_region_x 9 [0, 1, 2, 3, 4, 5, 6, 7, 8] (by kernel_rfl) (by kernel_rfl) ?_
      iterate 7 (refine wpX_quiet rfl (by kernel_rfl) rfl ?_; go_wp2; refine ⟨rfl, ?_⟩)
      refine wpX_actor rfl (by kernel_rfl) ?_
      go_wp2_with fail
      refine (markText_i (y + 1 + 1 + 1 + 1 + 1 + 1 + 1 + 1) _ (by omega) (by omega)).mono ?_; rintro e v1 ⟨rfl, hb0⟩
      have hb : Below (World.heap wr).size wr v1 := below_drewL hb0
      have HB := Lib.hid hb0
      obtain ⟨hbc, hbf⟩ := bcell hb
      have HC' := Lib.hid (cells_below HC.out hb)
      clear HC hbc hbf hc0 hc1 hc2 hc3 hc4 hc5 hc6 hc7 hc8
      have HC := Lib.hid HC'.out; clear HC'
      have BW' := Lib.hid (BW.out.trans (hb.mono BW.out.size)); clear BW
      have BW := Lib.hid BW'.out; clear BW'
      clear hb hb0
      go_wp2
      refine ⟨Ext.of_below HB.out, ?_⟩
      clear HB
      refine wpX_quiet rfl (by kernel_rfl) rfl ?_; go_wp2; refine ⟨rfl, ?_⟩
      refine wpX_nil ?_
      simp only [List.drop_succ_cons, List.drop_zero]
      have hc9 : World.cell? v1 ⟨(ad.add (j * 16)).block, (ad.add (j * 16)).off + 9, none⟩ = some (.string (bs (markL (y + 1 + 1 + 1 + 1 + 1 + 1 + 1 + 1 + 1).toNat))) := (HC.out 9 _ rfl).trans (congrArg some (strb_eq (show (InstD.mkv x ((k + cts InstD.cnt (xs.take j)))).cmd.name = markL (y + 1 + 1 + 1 + 1 + 1 + 1 + 1 + 1 + 1).toNat by have := HY.out; simp only [InstD.mkv, InstD.cnt, IdD.mkv, IdD.cnt, CmdD.mkv, CmdD.cnt]; congr 1; omega)))
      go_wp2
      refine wp_region_x 9 [0, 1, 2, 3, 4, 5, 6, 7, 8] (by kernel_rfl) (by kernel_rfl) ?_
      iterate 7 (refine wpX_quiet rfl (by kernel_rfl) rfl ?_; go_wp2; refine ⟨rfl, ?_⟩)
      refine wpX_actor rfl (by kernel_rfl) ?_
      go_wp2_with fail
      refine (markText_i (y + 1 + 1 + 1 + 1 + 1 + 1 + 1 + 1 + 1) _ (by omega) (by omega)).mono ?_; rintro e v2 ⟨rfl, hb0⟩
      have hb : Below (World.heap v1).size v1 v2 := below_drewL hb0
      have HB := Lib.hid hb0
      obtain ⟨hbc, hbf⟩ := bcell hb
      have HC' := Lib.hid (cells_below HC.out hb)
      clear HC hbc hbf hc9
      have HC := Lib.hid HC'.out; clear HC'
      have BW' := Lib.hid (BW.out.trans (hb.mono BW.out.size)); clear BW
      have BW := Lib.hid BW'.out; clear BW'
      clear hb hb0
      go_wp2
      refine ⟨Ext.of_below HB.out, ?_⟩
      clear HB
      refine wpX_quiet rfl (by kernel_rfl) rfl ?_; go_wp2; refine ⟨rfl, ?_⟩
      refine wpX_nil ?_
      simp only [List.drop_succ_cons, List.drop_zero]
      have hc10 : World.cell? v2 ⟨(ad.add (j * 16)).block, (ad.add (j * 16)).off + 10, none⟩ = some (.string (bs (markL (y + 1 + 1 + 1 + 1 + 1 + 1 + 1 + 1 + 1 + 1).toNat))) := (HC.out 10 _ rfl).trans (congrArg some (strb_eq (show (InstD.mkv x ((k + cts InstD.cnt (xs.take j)))).cmd.tag = markL (y + 1 + 1 + 1 + 1 + 1 + 1 + 1 + 1 + 1 + 1).toNat by have := HY.out; simp only [InstD.mkv, InstD.cnt, IdD.mkv, IdD.cnt, CmdD.mkv, CmdD.cnt]; congr 1; omega)))
      go_wp2
      refine wp_region_x 9 [0, 1, 2, 3, 4, 5, 6, 7, 8] (by kernel_rfl) (by kernel_rfl) ?_
      iterate 7 (refine wpX_quiet rfl (by kernel_rfl) rfl ?_; go_wp2; refine ⟨rfl, ?_⟩)
      refine wpX_actor rfl (by kernel_rfl) ?_
      go_wp2_with fail
      refine (markText_i (y + 1 + 1 + 1 + 1 + 1 + 1 + 1 + 1 + 1 + 1) _ (by omega) (by omega)).mono ?_; rintro e v3 ⟨rfl, hb0⟩
      have hb : Below (World.heap v2).size v2 v3 := below_drewL hb0
      have HB := Lib.hid hb0
      obtain ⟨hbc, hbf⟩ := bcell hb
      have HC' := Lib.hid (cells_below HC.out hb)
      clear HC hbc hbf hc10
      have HC := Lib.hid HC'.out; clear HC'
      have BW' := Lib.hid (BW.out.trans (hb.mono BW.out.size)); clear BW
      have BW := Lib.hid BW'.out; clear BW'
      clear hb hb0
      go_wp2
      refine ⟨Ext.of_below HB.out, ?_⟩
      clear HB
      refine wpX_quiet rfl (by kernel_rfl) rfl ?_; go_wp2; refine ⟨rfl, ?_⟩
      refine wpX_nil ?_
      simp only [List.drop_succ_cons, List.drop_zero]
      have hc11 : World.cell? v3 ⟨(ad.add (j * 16)).block, (ad.add (j * 16)).off + 11, none⟩ = some (.int .i64 (y + 1 + 1 + 1 + 1 + 1 + 1 + 1 + 1 + 1 + 1 + 1)) := (HC.out 11 _ rfl).trans (congrArg some (i64_eq (show (InstD.mkv x ((k + cts InstD.cnt (xs.take j)))).cmd.n = y + 1 + 1 + 1 + 1 + 1 + 1 + 1 + 1 + 1 + 1 + 1 by have := HY.out; simp only [InstD.mkv, InstD.cnt, IdD.mkv, IdD.cnt, CmdD.mkv, CmdD.cnt]; omega)))
      have hc12 : World.cell? v3 ⟨(ad.add (j * 16)).block, (ad.add (j * 16)).off + 12, none⟩ = some _ := HC.out 12 _ rfl
      go_wp2_with fail
      refine (heldStringS_any' x.cmd.chunks ((k + cts InstD.cnt (xs.take j)) + IdD.cnt x.id + 1 + 1 + 1 + 1 + 1 + 1 + 1 + 1 + 1 + 1) _ _ _ _ _ (mks_length _ _) (by have := HY.out;  first | omega | (simp only [InstD.cnt, IdD.cnt, CmdD.cnt] <;> omega)) (by omega) (by have := HCT.out; have := HCT2.out; have := HK2.out; simp only [InstD.cnt, IdD.cnt, CmdD.cnt] at *; omega) (S0.out.below BW.out)).mono ?_; rintro e v4 ⟨q0, rfl, hq, hb⟩
      have HQ0 := Lib.hid (show q0 = (((k + cts InstD.cnt (xs.take j)) + 1 + 1 + 1 + 1 + 1 + 1 + 1 + 1 + 1 + 1 + 1 + 1 + cts (fun _ => 1) x.cmd.chunks : Nat) : Int) by rw [hq] <;> (first | omega | (simp only [InstD.cnt, IdD.cnt, CmdD.cnt] <;> omega))); clear hq
      have hb0 : 1 ≤ q0 ∧ q0 ≤ 4611686018427387904 := by have := HQ0.out; have := HCT.out; have := HCT2.out; have := HK2.out; simp only [InstD.cnt, IdD.cnt, CmdD.cnt] at *; omega
      obtain ⟨hb0a, hb0b⟩ := hb0
      have hb0c : 0 ≤ q0 := by omega
      obtain ⟨hbc, hbf⟩ := bcell hb
      have HC' := Lib.hid (cells_below HC.out hb)
      clear HC hbc hbf hc11 hc12
      have HC := Lib.hid HC'.out; clear HC'
      have BW' := Lib.hid (BW.out.trans (hb.mono BW.out.size)); clear BW
      have BW := Lib.hid BW'.out; clear BW'
      clear hb
      have hc13 : World.cell? v4 ⟨(ad.add (j * 16)).block, (ad.add (j * 16)).off + 13, none⟩ = some (.int .i64 (q0)) := (HC.out 13 _ rfl).trans (congrArg some (i64_eq (show (InstD.mkv x ((k + cts InstD.cnt (xs.take j)))).seq = q0 by have := HY.out; have := HQ0.out; simp only [InstD.mkv, InstD.cnt, IdD.mkv, IdD.cnt, CmdD.mkv, CmdD.cnt]; omega)))
      have hc14 : World.cell? v4 ⟨(ad.add (j * 16)).block, (ad.add (j * 16)).off + 14, none⟩ = some _ := HC.out 14 _ rfl
      go_wp2_with fail
      refine (heldIdS_any x.deps ((k + cts InstD.cnt (xs.take j)) + IdD.cnt x.id + 1 + 1 + 1 + CmdD.cnt x.cmd + 1) _ _ _ _ _ (mks_length _ _) (by have := HY.out; have := HQ0.out;  first | omega | (simp only [InstD.cnt, IdD.cnt, CmdD.cnt] <;> omega)) (by omega) (by have := HCT.out; have := HCT2.out; have := HK2.out; simp only [InstD.cnt, IdD.cnt, CmdD.cnt] at *; omega) (S1.out.below BW.out)).mono ?_; rintro e v5 ⟨q1, rfl, hq, hb⟩
      have HQ1 := Lib.hid (show q1 = (((k + cts InstD.cnt (xs.take j)) + 1 + 1 + 1 + 1 + 1 + 1 + 1 + 1 + 1 + 1 + 1 + 1 + cts (fun _ => 1) x.cmd.chunks + 1 + cts IdD.cnt x.deps : Nat) : Int) by rw [hq] <;> (first | omega | (simp only [InstD.cnt, IdD.cnt, CmdD.cnt] <;> omega))); clear hq
      have hb1 : 1 ≤ q1 ∧ q1 ≤ 4611686018427387904 := by have := HQ1.out; have := HCT.out; have := HCT2.out; have := HK2.out; simp only [InstD.cnt, IdD.cnt, CmdD.cnt] at *; omega
      obtain ⟨hb1a, hb1b⟩ := hb1
      have hb1c : 0 ≤ q1 := by omega
      obtain ⟨hbc, hbf⟩ := bcell hb
      have HC' := Lib.hid (cells_below HC.out hb)
      clear HC hbc hbf hc13 hc14
      have HC := Lib.hid HC'.out; clear HC'
      have BW' := Lib.hid (BW.out.trans (hb.mono BW.out.size)); clear BW
      have BW := Lib.hid BW'.out; clear BW'
      clear hb
      have hc15 : World.cell? v5 ⟨(ad.add (j * 16)).block, (ad.add (j * 16)).off + 15, none⟩ = some (.bool ((q1) % 3 == (0 : Int))) := (HC.out 15 _ rfl).trans (congrArg some (bool_eq (show (InstD.mkv x ((k + cts InstD.cnt (xs.take j)))).same = ((q1) % 3 == (0 : Int)) by have := HY.out; have := HQ0.out; have := HQ1.out; simp only [InstD.mkv, InstD.cnt, IdD.mkv, IdD.cnt, CmdD.mkv, CmdD.cnt]; exact (mod3 (by omega)).symm)))
      go_wp2
      exact ⟨⟨j + 1, _, by omega, by go_num, rfl, by have := HCT.out; have := HY.out; have := HQ0.out; have := HQ1.out; simp only [InstD.cnt, IdD.cnt, CmdD.cnt] at *; omega, H2.out.trans (Below.mono (by repeat' (first | with_reducible exact Below.refl _ _ | with_reducible exact BW.out | with_reducible refine Below.setCell ?_ ?_ _ | with_reducible refine Below.alloc ?_ ?_ _ | with_reducible refine Below.drew ?_ | (simp; done) | (simp; omega) | omega)) H2.out.size)⟩, by simp only [intOf]; omega⟩
    · have hjn2 : j = n := by omega
      subst hjn2
      have hy4 := HY.out
      rw [List.take_of_length_le (by have := HN.out; omega)] at hy4
      have H4 := Lib.hid hy4; clear hy4
      go_wp2
      go_ret
      exact ⟨_, rfl, H4.out, H2.out⟩

end Go.Proofs.Ytoffelfcmfpooaa
