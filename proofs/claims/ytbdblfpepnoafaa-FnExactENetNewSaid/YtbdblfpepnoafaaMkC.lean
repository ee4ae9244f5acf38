/-
  The laws' helpers mark* and held*, greater elements. Conditions: as each contract names them.
-/
import Derived.Test.YtbdblfpepnoafaaMkB
namespace Go.Proofs.Ytbdblfpepnoafaa
open Go.RowKit


set_option maxRecDepth 100000 in
set_option maxHeartbeats 1000000 in
theorem markLeadS_any (xs : List LeadD) (k : Nat) (y0 : Int) (base : Nat) (A : Option Addr) (n c : Nat) (F : List Nat) (w : World) (hn : n = xs.length) (hy0 : y0 = (k : Int)) (hk1 : 1 ≤ k) (hk2 : k + cts LeadD.cnt xs ≤ 4611686018427387904) (hF : F.Nodup) (h : Own w base (.sl 145 8 n (cat LeadD.c xs) .nil) [.slice A n c] F) :
    Calls Try.prog 121 #[.slice A n c, .int .i64 y0] w fun e w' => ∃ q : Int, e = .returned (.int .i64 q) ∧ q = ((k + cts LeadD.cnt xs : Nat) : Int) ∧ Own w' base (.sl 145 8 n (cat LeadD.c (mks LeadD.mkv LeadD.cnt xs k)) .nil) [.slice A n c] F ∧ Mod F w w' := by
  have HN := Lib.hid hn; clear hn
  have HF := Lib.hid hF; clear hF
  have HK2 := Lib.hid hk2; clear hk2
  have hnb := own_len h
  have H0 := Lib.hid h; clear h
  have HY0 := Lib.hid hy0; clear hy0
  have hy1 : 1 ≤ y0 := by have := HY0.out; omega
  go_enter Try.func121, Try.ntmps121
  go_wp2
  go_loopw [1, 5] (fun kk ii wr => ∃ (j : Nat) (y : Int), j ≤ n ∧ ii = .int .i64 (j : Int) ∧ kk = .int .i64 y ∧ y = ((k + cts LeadD.cnt (xs.take j) : Nat) : Int) ∧ Own wr base (.sl 145 8 n (cat LeadD.c (mks LeadD.mkv LeadD.cnt (xs.take j) k ++ xs.drop j)) .nil) [.slice A n c] F ∧ Mod F w wr) (fun _ ii _ => n - (intOf ii).toNat)
  case atStart => exact ⟨0, y0, Nat.zero_le _, rfl, rfl, by simpa [cts] using HY0.out, by simpa [mks] using H0.out, Mod.refl _ _⟩
  case round =>
    obtain ⟨j, y, hj, rfl, rfl, hy, hown, hmod⟩ := hrel
    have hjn : j ≤ xs.length := by have := HN.out; omega
    have hk3 := cts_take_le (cnt := LeadD.cnt) xs j
    have hyb : 1 ≤ y ∧ y ≤ 4611686018427387904 := by have := HK2.out; omega
    obtain ⟨hy2, hy3⟩ := hyb
    have HY := Lib.hid hy; clear hy hk3
    have MD := Lib.hid hmod; clear hmod
    by_cases hlt : j < n
    · have hjx : j < xs.length := by have := HN.out; omega
      have hct := cts_take_succ (cnt := LeadD.cnt) xs j hjx
      have hct2 := cts_take_le (cnt := LeadD.cnt) xs (j + 1)
      have hms := mks_take_succ (mk := LeadD.mkv) (cnt := LeadD.cnt) xs k j hjx
      rw [mks_take_drop (mk := LeadD.mkv) (cnt := LeadD.cnt) xs k j hjx] at hown
      obtain ⟨g, rfl⟩ := own_addr hown (by omega)
      obtain ⟨c1, c2, c3, sp, G1, G2, G3, rfl, o1, o2, o3, hl1, hbg, hblk, hre⟩ := own_round LeadD.width hown
      rw [mks_length, List.length_take, Nat.min_eq_left hjn] at hl1
      generalize xs[j] = x at *
      obtain ⟨hg1, hnd1, hnd2, hd12, hd13, hd23⟩ := nodup3 HF.out
      obtain ⟨A0, k0, A1, k1, F0, F1, rfl, rfl, s0, s1⟩ := LeadD.openO o2
      clear o2 hown
      have O1 := Lib.hid o1; clear o1
      have O3 := Lib.hid o3; clear o3
      have HL := Lib.hid hl1; clear hl1
      have LB := Lib.hid hblk; clear hblk
      have HRE := Lib.hid hre; clear hre
      have HCT := Lib.hid hct; clear hct
      have HCT2 := Lib.hid hct2; clear hct2
      have HMS := Lib.hid hms; clear hms
      have HG := Lib.hid hg1; clear hg1
      have D12 := Lib.hid hd12; clear hd12
      have D13 := Lib.hid hd13; clear hd13
      have D23 := Lib.hid hd23; clear hd23
      have ND2 := Lib.hid hnd2; clear hnd2
      have ND1 := Lib.hid hnd1; clear hnd1
      have S0 := Lib.hid s0; clear s0
      have S1 := Lib.hid s1; clear s1
      have MR := Lib.hid (Mod.refl (g :: (F0 ++ F1)) wr)
      have hfz : ∀ p, World.frozen? wr ⟨g, p, none⟩ = false := fun p => LB.out.frozen p
      have hc0 : ∃ u, World.cell? wr ⟨g, j * 8, none⟩ = some u := ⟨_, blk_get LB.out HL.out (f := 0) rfl⟩
      obtain ⟨u0, hc0⟩ := hc0
      have hc1 : ∃ u, World.cell? wr ⟨g, j * 8 + 1, none⟩ = some u := ⟨_, blk_get LB.out HL.out (f := 1) rfl⟩
      obtain ⟨u1, hc1⟩ := hc1
      have hc2 : ∃ u, World.cell? wr ⟨g, j * 8 + 2, none⟩ = some u := ⟨_, blk_get LB.out HL.out (f := 2) rfl⟩
      obtain ⟨u2, hc2⟩ := hc2
      have hc3 : ∃ u, World.cell? wr ⟨g, j * 8 + 3, none⟩ = some u := ⟨_, blk_get LB.out HL.out (f := 3) rfl⟩
      obtain ⟨u3, hc3⟩ := hc3
      have hc4 : ∃ u, World.cell? wr ⟨g, j * 8 + 4, none⟩ = some u := ⟨_, blk_get LB.out HL.out (f := 4) rfl⟩
      obtain ⟨u4, hc4⟩ := hc4
      have hc5 : World.cell? wr ⟨g, j * 8 + 5, none⟩ = some (.slice A0 x.deps.length k0) := blk_get LB.out HL.out (f := 5) rfl
      go_wp2_with fail
      refine (markIdS_any x.deps ((k + cts LeadD.cnt (xs.take j)) + IdD.cnt x.id + 1 + 1 + 1) _ base _ _ _ F0 _ rfl (by have := HY.out;  first | omega | (simp only [LeadD.cnt, IdD.cnt] <;> omega)) (by omega) (by have := HCT.out; have := HCT2.out; have := HK2.out; simp only [LeadD.cnt, IdD.cnt] at *; omega) (nodup_l ND2.out) (S0.out.mod1 (F' := [g]) (by repeat' (first | with_reducible exact Mod.refl _ _ | with_reducible refine Mod.setCell ?_ ?_ _ | with_reducible refine Mod.drew ?_ | (simp; done) | (simp; omega) | omega)) (fun b hb e => HG.out b (by simp [hb]) (by simpa using e)))).mono ?_; rintro e v1 ⟨q0, rfl, hq, ho, hm⟩
      have lb := Blk.mod (blk_put (blk_put (blk_put (blk_put (blk_put LB.out HL.out (f := 0) _ (by simp)) HL.out (f := 1) _ (by simp)) HL.out (f := 2) _ (by simp)) HL.out (f := 3) _ (by simp)) HL.out (f := 4) _ (by simp)) hm (fun e => HG.out g (by simp [e]) rfl)
      skip
      have mr : Mod (g :: (F0 ++ F1)) wr v1 := MR.out.trans (Mod.trans (Mod.mono (F := [g]) (by repeat' (first | with_reducible exact Mod.refl _ _ | with_reducible refine Mod.setCell ?_ ?_ _ | with_reducible refine Mod.drew ?_ | (simp; done) | (simp; omega) | omega)) (by simp)) (hm.mono (by simp; intro b hb; simp [hb])))
      have s0 := ho
      have s1 := (S1.out.mod1 (F' := [g]) (by repeat' (first | with_reducible exact Mod.refl _ _ | with_reducible refine Mod.setCell ?_ ?_ _ | with_reducible refine Mod.drew ?_ | (simp; done) | (simp; omega) | omega)) (fun b hb e => HG.out b (by simp [hb]) (by simpa using e))).mod1 hm (fun b hb e => disj ND2.out b e hb)
      have HCL := Lib.hid (And.intro HL.out trivial); clear HCL
      clear hc0 hc1 hc2 hc3 hc4 hc5 hfz
      have LB' := Lib.hid lb; clear LB lb
      have LB := Lib.hid LB'.out; clear LB'
      have MR' := Lib.hid mr; clear MR mr
      have MR := Lib.hid MR'.out; clear MR'
      have S0' := Lib.hid s0; clear S0 s0
      have S0 := Lib.hid S0'.out; clear S0'
      have S1' := Lib.hid s1; clear S1 s1
      have S1 := Lib.hid S1'.out; clear S1'
      have HQ0 := Lib.hid (show q0 = (((k + cts LeadD.cnt (xs.take j)) + 1 + 1 + 1 + 1 + 1 + cts IdD.cnt x.deps : Nat) : Int) by rw [hq] <;> (first | omega | (simp only [LeadD.cnt, IdD.cnt] <;> omega))); clear hq ho hm
      have hb0 : 1 ≤ q0 ∧ q0 ≤ 4611686018427387904 := by have := HQ0.out; have := HCT.out; have := HCT2.out; have := HK2.out; simp only [LeadD.cnt, IdD.cnt] at *; omega
      obtain ⟨hb0a, hb0b⟩ := hb0
      have hfz : ∀ p, World.frozen? v1 ⟨g, p, none⟩ = false := fun p => LB.out.frozen p
      have hc6 : World.cell? v1 ⟨g, j * 8 + 6, none⟩ = some (.slice A1 x.frm.length k1) := blk_get LB.out HL.out (f := 6) rfl
      go_wp2_with fail
      refine (markIntS_any x.frm ((k + cts LeadD.cnt (xs.take j)) + IdD.cnt x.id + 1 + 1 + 1 + cts IdD.cnt x.deps) _ base _ _ _ F1 _ rfl (by have := HY.out; have := HQ0.out;  first | omega | (simp only [LeadD.cnt, IdD.cnt] <;> omega)) (by omega) (by have := HCT.out; have := HCT2.out; have := HK2.out; simp only [LeadD.cnt, IdD.cnt] at *; omega) (nodup_r ND2.out) (S1.out.mod1 (F' := [g]) (by repeat' (first | with_reducible exact Mod.refl _ _ | with_reducible refine Mod.setCell ?_ ?_ _ | with_reducible refine Mod.drew ?_ | (simp; done) | (simp; omega) | omega)) (fun b hb e => HG.out b (by simp [hb]) (by simpa using e)))).mono ?_; rintro e v2 ⟨q1, rfl, hq, ho, hm⟩
      have lb := Blk.mod LB.out hm (fun e => HG.out g (by simp [e]) rfl)
      skip
      have mr : Mod (g :: (F0 ++ F1)) wr v2 := MR.out.trans (Mod.trans (Mod.mono (F := [g]) (by repeat' (first | with_reducible exact Mod.refl _ _ | with_reducible refine Mod.setCell ?_ ?_ _ | with_reducible refine Mod.drew ?_ | (simp; done) | (simp; omega) | omega)) (by simp)) (hm.mono (by simp; intro b hb; simp [hb])))
      have s0 := (S0.out.mod1 (F' := [g]) (by repeat' (first | with_reducible exact Mod.refl _ _ | with_reducible refine Mod.setCell ?_ ?_ _ | with_reducible refine Mod.drew ?_ | (simp; done) | (simp; omega) | omega)) (fun b hb e => HG.out b (by simp [hb]) (by simpa using e))).mod1 hm (fun b hb e => disj ND2.out b hb e)
      have s1 := ho
      have HCL := Lib.hid (And.intro HL.out trivial); clear HCL
      clear hc6 hfz
      have LB' := Lib.hid lb; clear LB lb
      have LB := Lib.hid LB'.out; clear LB'
      have MR' := Lib.hid mr; clear MR mr
      have MR := Lib.hid MR'.out; clear MR'
      have S0' := Lib.hid s0; clear S0 s0
      have S0 := Lib.hid S0'.out; clear S0'
      have S1' := Lib.hid s1; clear S1 s1
      have S1 := Lib.hid S1'.out; clear S1'
      have HQ1 := Lib.hid (show q1 = (((k + cts LeadD.cnt (xs.take j)) + 1 + 1 + 1 + 1 + 1 + cts IdD.cnt x.deps + cts (fun _ => 1) x.frm : Nat) : Int) by rw [hq] <;> (first | omega | (simp only [LeadD.cnt, IdD.cnt] <;> omega))); clear hq ho hm
      have hb1 : 1 ≤ q1 ∧ q1 ≤ 4611686018427387904 := by have := HQ1.out; have := HCT.out; have := HCT2.out; have := HK2.out; simp only [LeadD.cnt, IdD.cnt] at *; omega
      obtain ⟨hb1a, hb1b⟩ := hb1
      have hfz : ∀ p, World.frozen? v2 ⟨g, p, none⟩ = false := fun p => LB.out.frozen p
      have hc7 : ∃ u, World.cell? v2 ⟨g, j * 8 + 7, none⟩ = some u := ⟨_, blk_get LB.out HL.out (f := 7) rfl⟩
      obtain ⟨u7, hc7⟩ := hc7
      go_wp2
      refine ⟨⟨j + 1, _, by omega, by go_num, rfl, ?_, ?_, ?_⟩, by simp only [intOf]; omega⟩
      · have := HCT.out; have := HY.out; have := HQ0.out; have := HQ1.out; simp only [LeadD.cnt, IdD.cnt] at *; omega
      · rw [HMS.out]
        refine HRE.out _ _ _ (O1.out.mod1 (F' := (g :: (F0 ++ F1))) ?_ (fun b hb e => ?_)) (Own.castL (LeadD.shutO (own_cast (S0.out.mod1 (F' := [g]) (by repeat' (first | with_reducible exact Mod.refl _ _ | with_reducible refine Mod.setCell ?_ ?_ _ | with_reducible refine Mod.drew ?_ | (simp; done) | (simp; omega) | omega)) (fun b hb e => HG.out b (by simp [hb]) (by simpa using e))) (mks_length _ _).symm) (own_cast (S1.out.mod1 (F' := [g]) (by repeat' (first | with_reducible exact Mod.refl _ _ | with_reducible refine Mod.setCell ?_ ?_ _ | with_reducible refine Mod.drew ?_ | (simp; done) | (simp; omega) | omega)) (fun b hb e => HG.out b (by simp [hb]) (by simpa using e))) (mks_length _ _).symm)) (cons_eq (i64_eq (show (_ : Int) = (LeadD.mkv x ((k + cts LeadD.cnt (xs.take j)))).id.rep by have := HY.out; have := HQ0.out; have := HQ1.out; simp only [LeadD.mkv, LeadD.cnt, IdD.mkv, IdD.cnt]; omega)) (cons_eq (i64_eq (show (_ : Int) = (LeadD.mkv x ((k + cts LeadD.cnt (xs.take j)))).id.slot by have := HY.out; have := HQ0.out; have := HQ1.out; simp only [LeadD.mkv, LeadD.cnt, IdD.mkv, IdD.cnt]; omega)) (cons_eq (i64_eq (show (_ : Int) = (LeadD.mkv x ((k + cts LeadD.cnt (xs.take j)))).bal by have := HY.out; have := HQ0.out; have := HQ1.out; simp only [LeadD.mkv, LeadD.cnt, IdD.mkv, IdD.cnt]; omega)) (cons_eq (i64_eq (show (_ : Int) = (LeadD.mkv x ((k + cts LeadD.cnt (xs.take j)))).phase by have := HY.out; have := HQ0.out; have := HQ1.out; simp only [LeadD.mkv, LeadD.cnt, IdD.mkv, IdD.cnt]; omega)) (cons_eq (i64_eq (show (_ : Int) = (LeadD.mkv x ((k + cts LeadD.cnt (xs.take j)))).seq by have := HY.out; have := HQ0.out; have := HQ1.out; simp only [LeadD.mkv, LeadD.cnt, IdD.mkv, IdD.cnt]; omega)) (cons_eq (rfl) (cons_eq (rfl) (cons_eq (bool_eq (show ((q1) % 3 == (0 : Int)) = (LeadD.mkv x ((k + cts LeadD.cnt (xs.take j)))).same by have := HY.out; have := HQ0.out; have := HQ1.out; simp only [LeadD.mkv, LeadD.cnt, IdD.mkv, IdD.cnt]; exact mod3 (by omega))) rfl))))))))) (O3.out.mod1 (F' := (g :: (F0 ++ F1))) ?_ (fun b hb e => ?_)) (blk_put LB.out HL.out (f := 7) _ (by simp))
        · exact Mod.trans MR.out (Mod.mono (F := [g]) (by repeat' (first | with_reducible exact Mod.refl _ _ | with_reducible refine Mod.setCell ?_ ?_ _ | with_reducible refine Mod.drew ?_ | (simp; done) | (simp; omega) | omega)) (by simp))
        · rcases List.mem_cons.1 e with e | e
          · exact HG.out b (by simp [hb]) e
          · exact D12.out b hb e
        · exact Mod.trans MR.out (Mod.mono (F := [g]) (by repeat' (first | with_reducible exact Mod.refl _ _ | with_reducible refine Mod.setCell ?_ ?_ _ | with_reducible refine Mod.drew ?_ | (simp; done) | (simp; omega) | omega)) (by simp))
        · rcases List.mem_cons.1 e with e | e
          · exact HG.out b (by simp [hb]) e
          · exact D23.out b e hb
      · exact MD.out.trans (Mod.mono (F := (g :: (F0 ++ F1))) (Mod.trans MR.out (Mod.mono (F := [g]) (by repeat' (first | with_reducible exact Mod.refl _ _ | with_reducible refine Mod.setCell ?_ ?_ _ | with_reducible refine Mod.drew ?_ | (simp; done) | (simp; omega) | omega)) (by simp))) sub_mid)
    · have hjn2 : j = n := by omega
      subst hjn2
      rw [List.take_of_length_le (by have := HN.out; omega), List.drop_of_length_le (by have := HN.out; omega), List.append_nil] at hown
      have H1 := Lib.hid hown; clear hown
      have hy4 := HY.out
      rw [List.take_of_length_le (by have := HN.out; omega)] at hy4
      have H4 := Lib.hid hy4; clear hy4
      go_wp2
      go_ret
      exact ⟨_, rfl, H4.out, H1.out, MD.out⟩


set_option maxRecDepth 100000 in
set_option maxHeartbeats 1000000 in
theorem heldLeadS_any (xs : List LeadD) (k : Nat) (y0 : Int) (A : Option Addr) (n c : Nat) (w : World) (hn : n = xs.length) (hy0 : y0 = (k : Int)) (hk1 : 1 ≤ k) (hk2 : k + cts LeadD.cnt xs ≤ 4611686018427387904) (h : Rep anyB w (.sl 145 8 n (cat LeadD.c (mks LeadD.mkv LeadD.cnt xs k)) .nil) [.slice A n c]) :
    Calls Try.prog 123 #[.slice A n c, .int .i64 y0] w fun e w' => ∃ q : Int, e = .returned (.int .i64 q) ∧ q = ((k + cts LeadD.cnt xs : Nat) : Int) ∧ Below w.heap.size w w' := by
  have hnb : n ≤ 9223372036854775807 := by have := cts_ge (cnt := LeadD.cnt) (fun x => by simp only [LeadD.cnt, IdD.cnt]; omega) xs; omega
  have HN := Lib.hid hn; clear hn
  have HK2 := Lib.hid hk2; clear hk2
  have HR := Lib.hid h; clear h
  have HY0 := Lib.hid hy0; clear hy0
  have hy1 : 1 ≤ y0 := by have := HY0.out; omega
  go_enter Try.func123, Try.ntmps123
  go_wp2
  go_loopw [1, 5] (fun kk ii wr => ∃ (j : Nat) (y : Int), j ≤ n ∧ ii = .int .i64 (j : Int) ∧ kk = .int .i64 y ∧ y = ((k + cts LeadD.cnt (xs.take j) : Nat) : Int) ∧ Below w.heap.size w wr) (fun _ ii _ => n - (intOf ii).toNat)
  case atStart => exact ⟨0, y0, Nat.zero_le _, rfl, rfl, by simpa [cts] using HY0.out, Below.refl _ _⟩
  case round =>
    obtain ⟨j, y, hj, rfl, rfl, hy, hbel⟩ := hrel
    have hjn : j ≤ xs.length := by have := HN.out; omega
    have hk3 := cts_take_le (cnt := LeadD.cnt) xs j
    have hyb : 1 ≤ y ∧ y ≤ 4611686018427387904 := by have := HK2.out; omega
    obtain ⟨hy2, hy3⟩ := hyb
    have HY := Lib.hid hy; clear hy hk3
    have H2 := Lib.hid hbel; clear hbel
    by_cases hlt : j < n
    · have hjx : j < xs.length := by have := HN.out; omega
      have hct := cts_take_succ (cnt := LeadD.cnt) xs j hjx
      have hct2 := cts_take_le (cnt := LeadD.cnt) xs (j + 1)
      obtain ⟨ad, ci, rfl, _, _, hrc, hl, hc⟩ := (HR.out.below H2.out).elem LeadD.width j (by rw [mks_length]; exact hjx) (by rw [mks_length]; exact HN.out)
      rw [mks_get _ _ _ hjx] at hrc
      generalize xs[j] = x at *
      obtain ⟨A0, k0, A1, k1, rfl, s0, s1⟩ := LeadD.open hrc
      clear hrc hl
      have HC := Lib.hid hc; clear hc
      have HCT := Lib.hid hct; clear hct
      have HCT2 := Lib.hid hct2; clear hct2
      have S0 := Lib.hid s0; clear s0
      have S1 := Lib.hid s1; clear s1
      have BW := Lib.hid (Below.refl wr.heap.size wr)
      have hc0 : World.cell? wr (ad.add (j * 8)) = some (.int .i64 (y)) := (HC.out 0 _ rfl).trans (congrArg some (i64_eq (show (LeadD.mkv x ((k + cts LeadD.cnt (xs.take j)))).id.rep = y by have := HY.out; simp only [LeadD.mkv, LeadD.cnt, IdD.mkv, IdD.cnt]; omega)))
      have hc1 : World.cell? wr ⟨(ad.add (j * 8)).block, (ad.add (j * 8)).off + 1, none⟩ = some (.int .i64 (y + 1)) := (HC.out 1 _ rfl).trans (congrArg some (i64_eq (show (LeadD.mkv x ((k + cts LeadD.cnt (xs.take j)))).id.slot = y + 1 by have := HY.out; simp only [LeadD.mkv, LeadD.cnt, IdD.mkv, IdD.cnt]; omega)))
      have hc2 : World.cell? wr ⟨(ad.add (j * 8)).block, (ad.add (j * 8)).off + 2, none⟩ = some (.int .i64 (y + 1 + 1)) := (HC.out 2 _ rfl).trans (congrArg some (i64_eq (show (LeadD.mkv x ((k + cts LeadD.cnt (xs.take j)))).bal = y + 1 + 1 by have := HY.out; simp only [LeadD.mkv, LeadD.cnt, IdD.mkv, IdD.cnt]; omega)))
      have hc3 : World.cell? wr ⟨(ad.add (j * 8)).block, (ad.add (j * 8)).off + 3, none⟩ = some (.int .i64 (y + 1 + 1 + 1)) := (HC.out 3 _ rfl).trans (congrArg some (i64_eq (show (LeadD.mkv x ((k + cts LeadD.cnt (xs.take j)))).phase = y + 1 + 1 + 1 by have := HY.out; simp only [LeadD.mkv, LeadD.cnt, IdD.mkv, IdD.cnt]; omega)))
      have hc4 : World.cell? wr ⟨(ad.add (j * 8)).block, (ad.add (j * 8)).off + 4, none⟩ = some (.int .i64 (y + 1 + 1 + 1 + 1)) := (HC.out 4 _ rfl).trans (congrArg some (i64_eq (show (LeadD.mkv x ((k + cts LeadD.cnt (xs.take j)))).seq = y + 1 + 1 + 1 + 1 by have := HY.out; simp only [LeadD.mkv, LeadD.cnt, IdD.mkv, IdD.cnt]; omega)))
      have hc5 : World.cell? wr ⟨(ad.add (j * 8)).block, (ad.add (j * 8)).off + 5, none⟩ = some _ := HC.out 5 _ rfl
      go_wp2_with fail
      refine (heldIdS_any x.deps ((k + cts LeadD.cnt (xs.take j)) + IdD.cnt x.id + 1 + 1 + 1) _ _ _ _ _ (mks_length _ _) (by have := HY.out;  first | omega | (simp only [LeadD.cnt, IdD.cnt] <;> omega)) (by omega) (by have := HCT.out; have := HCT2.out; have := HK2.out; simp only [LeadD.cnt, IdD.cnt] at *; omega) (S0.out.below BW.out)).mono ?_; rintro e v1 ⟨q0, rfl, hq, hb⟩
      have HQ0 := Lib.hid (show q0 = (((k + cts LeadD.cnt (xs.take j)) + 1 + 1 + 1 + 1 + 1 + cts IdD.cnt x.deps : Nat) : Int) by rw [hq] <;> (first | omega | (simp only [LeadD.cnt, IdD.cnt] <;> omega))); clear hq
      have hb0 : 1 ≤ q0 ∧ q0 ≤ 4611686018427387904 := by have := HQ0.out; have := HCT.out; have := HCT2.out; have := HK2.out; simp only [LeadD.cnt, IdD.cnt] at *; omega
      obtain ⟨hb0a, hb0b⟩ := hb0
      have hb0c : 0 ≤ q0 := by omega
      obtain ⟨hbc, hbf⟩ := bcell hb
      have HC' := Lib.hid (cells_below HC.out hb)
      clear HC hbc hbf hc0 hc1 hc2 hc3 hc4 hc5
      have HC := Lib.hid HC'.out; clear HC'
      have BW' := Lib.hid (BW.out.trans (hb.mono BW.out.size)); clear BW
      have BW := Lib.hid BW'.out; clear BW'
      clear hb
      have hc6 : World.cell? v1 ⟨(ad.add (j * 8)).block, (ad.add (j * 8)).off + 6, none⟩ = some _ := HC.out 6 _ rfl
      go_wp2_with fail
      refine (heldIntS_any x.frm ((k + cts LeadD.cnt (xs.take j)) + IdD.cnt x.id + 1 + 1 + 1 + cts IdD.cnt x.deps) _ _ _ _ _ (mks_length _ _) (by have := HY.out; have := HQ0.out;  first | omega | (simp only [LeadD.cnt, IdD.cnt] <;> omega)) (by omega) (by have := HCT.out; have := HCT2.out; have := HK2.out; simp only [LeadD.cnt, IdD.cnt] at *; omega) (S1.out.below BW.out)).mono ?_; rintro e v2 ⟨q1, rfl, hq, hb⟩
      have HQ1 := Lib.hid (show q1 = (((k + cts LeadD.cnt (xs.take j)) + 1 + 1 + 1 + 1 + 1 + cts IdD.cnt x.deps + cts (fun _ => 1) x.frm : Nat) : Int) by rw [hq] <;> (first | omega | (simp only [LeadD.cnt, IdD.cnt] <;> omega))); clear hq
      have hb1 : 1 ≤ q1 ∧ q1 ≤ 4611686018427387904 := by have := HQ1.out; have := HCT.out; have := HCT2.out; have := HK2.out; simp only [LeadD.cnt, IdD.cnt] at *; omega
      obtain ⟨hb1a, hb1b⟩ := hb1
      have hb1c : 0 ≤ q1 := by omega
      obtain ⟨hbc, hbf⟩ := bcell hb
      have HC' := Lib.hid (cells_below HC.out hb)
      clear HC hbc hbf hc6
      have HC := Lib.hid HC'.out; clear HC'
      have BW' := Lib.hid (BW.out.trans (hb.mono BW.out.size)); clear BW
      have BW := Lib.hid BW'.out; clear BW'
      clear hb
      have hc7 : World.cell? v2 ⟨(ad.add (j * 8)).block, (ad.add (j * 8)).off + 7, none⟩ = some (.bool ((q1) % 3 == (0 : Int))) := (HC.out 7 _ rfl).trans (congrArg some (bool_eq (show (LeadD.mkv x ((k + cts LeadD.cnt (xs.take j)))).same = ((q1) % 3 == (0 : Int)) by have := HY.out; have := HQ0.out; have := HQ1.out; simp only [LeadD.mkv, LeadD.cnt, IdD.mkv, IdD.cnt]; exact (mod3 (by omega)).symm)))
      go_wp2
      exact ⟨⟨j + 1, _, by omega, by go_num, rfl, by have := HCT.out; have := HY.out; have := HQ0.out; have := HQ1.out; simp only [LeadD.cnt, IdD.cnt] at *; omega, H2.out.trans (Below.mono (by repeat' (first | with_reducible exact Below.refl _ _ | with_reducible exact BW.out | with_reducible refine Below.setCell ?_ ?_ _ | with_reducible refine Below.alloc ?_ ?_ _ | with_reducible refine Below.drew ?_ | (simp; done) | (simp; omega) | omega)) H2.out.size)⟩, by simp only [intOf]; omega⟩
    · have hjn2 : j = n := by omega
      subst hjn2
      have hy4 := HY.out
      rw [List.take_of_length_le (by have := HN.out; omega)] at hy4
      have H4 := Lib.hid hy4; clear hy4
      go_wp2
      go_ret
      exact ⟨_, rfl, H4.out, H2.out⟩


set_option maxRecDepth 100000 in
set_option maxHeartbeats 1000000 in
theorem markENode_any (x : ENodeD) (k : Nat) (y0 : Int) (base : Nat) (cs : List Value) (F : List Nat) (w : World) (hy0 : y0 = (k : Int)) (hk1 : 1 ≤ k) (hk2 : k + x.cntT ≤ 4611686018427387904) (hF : F.Nodup) (h : Own w base x.c cs F) :
    Calls Try.prog 60 #[.agg cs.toArray, .int .i64 y0] w fun e w' => ∃ q : Int, e = .returned (.int .i64 q) ∧ q = ((k + x.cntT : Nat) : Int) ∧ Own w' base (x.mkT k).c cs F ∧ Mod F w w' := by
  obtain ⟨A0, k0, A1, k1, F0, F1, rfl, rfl, s0, s1⟩ := ENodeD.openO h
  have S0 := Lib.hid s0; clear s0
  have S1 := Lib.hid s1; clear s1
  clear h
  have HK2 := Lib.hid hk2; clear hk2
  have HY := Lib.hid hy0; clear hy0
  have hy1 : 1 ≤ y0 := by have := HY.out; omega
  have HCT := Lib.hid (show x.cntT = cts InstD.cnt x.insts + cts LeadD.cnt x.leads from rfl)
  have LT0 := Lib.hid (fun b hb => (S0.out.in b hb).2)
  have LT1 := Lib.hid (fun b hb => (S1.out.in b hb).2)
  have HF := Lib.hid hF; clear hF
  have MW := Lib.hid (Mod.refl (F0 ++ (F1)) w)
  go_enter Try.func60, Try.ntmps60
  go_wp2_with fail
  refine (markInstS_any x.insts (k) _ base _ _ _ F0 _ rfl (by have := HY.out; omega) (by omega) (by have := HCT.out; have := HK2.out; omega) (nodup_l HF.out) (S0.out.below (by repeat' (first | with_reducible exact Below.refl _ _ | with_reducible refine Below.alloc ?_ ?_ _ | (simp; done) | (simp; omega) | omega)))).mono ?_; rintro e w1 ⟨q0, rfl, hq, ho, hm⟩
  have HQ0 := Lib.hid hq; clear hq
  have hq0a : 1 ≤ q0 := by have := HQ0.out; omega
  have hq0b : q0 ≤ 4611686018427387904 := by have := HQ0.out; have := HCT.out; have := HK2.out; omega
  have hq0c : 0 ≤ q0 := by omega
  have hc0 : ∀ o, w1.cell? ⟨w.heap.size, o, none⟩ = World.cell? _ ⟨w.heap.size, o, none⟩ := fun o => World.cell?_of_block (hm.block w.heap.size (by simp) (fun hx => Nat.lt_irrefl _ (LT0.out _ hx)))
  have HZ := Lib.hid (show w.heap.size < w1.heap.size from Nat.lt_of_lt_of_le (by simp) hm.size)
  have s0 := ho
  have s1 := (S1.out.below (by repeat' (first | with_reducible exact Below.refl _ _ | with_reducible refine Below.alloc ?_ ?_ _ | (simp; done) | (simp; omega) | omega))).mod1 hm (fun b hb e => disj HF.out b e hb)
  have M1 := Lib.hid (MW.out.trans (Mod.trans (Mod.of_below (by repeat' (first | with_reducible exact Below.refl _ _ | with_reducible refine Below.alloc ?_ ?_ _ | (simp; done) | (simp; omega) | omega)) _) (hm.mono (by intro b hb; simp [hb])))); clear MW
  have MW := Lib.hid M1.out; clear M1
  have S0' := Lib.hid s0; clear S0 s0
  have S0 := Lib.hid S0'.out; clear S0'
  have S1' := Lib.hid s1; clear S1 s1
  have S1 := Lib.hid S1'.out; clear S1'
  clear ho hm
  go_wp2_with fail
  refine (markLeadS_any x.leads (k + cts InstD.cnt x.insts) _ base _ _ _ F1 _ rfl (by have := HY.out; have := HQ0.out; omega) (by omega) (by have := HCT.out; have := HK2.out; omega) (nodup_r HF.out) (S1.out.below (by repeat' (first | with_reducible exact Below.refl _ _ | with_reducible refine Below.alloc ?_ ?_ _ | (simp; done) | (simp; omega) | omega)))).mono ?_; rintro e w2 ⟨q1, rfl, hq, ho, hm⟩
  have HQ1 := Lib.hid hq; clear hq
  have hq1a : 1 ≤ q1 := by have := HQ1.out; omega
  have hq1b : q1 ≤ 4611686018427387904 := by have := HQ1.out; have := HCT.out; have := HK2.out; omega
  have hq1c : 0 ≤ q1 := by omega
  have hc1 : ∀ o, w2.cell? ⟨w.heap.size, o, none⟩ = World.cell? _ ⟨w.heap.size, o, none⟩ := fun o => World.cell?_of_block (hm.block w.heap.size HZ.out (fun hx => Nat.lt_irrefl _ (LT1.out _ hx)))
  have s0 := (S0.out.below (by repeat' (first | with_reducible exact Below.refl _ _ | with_reducible refine Below.alloc ?_ ?_ _ | (simp; done) | (simp; omega) | omega))).mod1 hm (fun b hb e => disj HF.out b hb e)
  have s1 := ho
  have M1 := Lib.hid (MW.out.trans (Mod.trans (Mod.refl _ _) (hm.mono (by intro b hb; simp [hb])))); clear MW
  have MW := Lib.hid M1.out; clear M1
  have S0' := Lib.hid s0; clear S0 s0
  have S0 := Lib.hid S0'.out; clear S0'
  have S1' := Lib.hid s1; clear S1 s1
  have S1 := Lib.hid S1'.out; clear S1'
  clear ho hm
  go_wp2
  go_ret
  exact ⟨_, rfl, by have := HCT.out; have := HY.out; have := HQ0.out; have := HQ1.out; omega, ENodeD.shutO (x := ENodeD.mkT x k) (own_cast S0.out (mks_length _ _).symm) (own_cast S1.out (mks_length _ _).symm), MW.out⟩


set_option maxRecDepth 100000 in
set_option maxHeartbeats 1000000 in
theorem heldENode_any (x : ENodeD) (k : Nat) (y0 : Int) (cs : List Value) (w : World) (hy0 : y0 = (k : Int)) (hk1 : 1 ≤ k) (hk2 : k + x.cntT ≤ 4611686018427387904) (hwt : x.c.wt ≤ 9223372036854775807) (h : Rep anyB w (x.mkT k).c cs) :
    Calls Try.prog 61 #[.agg cs.toArray, .int .i64 y0] w fun e w' => ∃ q : Int, e = .returned (.int .i64 q) ∧ q = ((k + x.cntT : Nat) : Int) ∧ Below w.heap.size w w' := by
  obtain ⟨A0, k0, A1, k1, rfl, s0, s1⟩ := ENodeD.open h
  have hw0 : x.c.wt = (x.insts.length + (cat InstD.c x.insts).wt + (x.leads.length + (cat LeadD.c x.leads).wt + 0)) := rfl
  rw [hw0] at hwt
  have HWT := Lib.hid hwt; clear hwt hw0
  have S0 := Lib.hid s0; clear s0
  have S1 := Lib.hid s1; clear s1
  clear h
  have HK2 := Lib.hid hk2; clear hk2
  have HY := Lib.hid hy0; clear hy0
  have hy1 : 1 ≤ y0 := by have := HY.out; omega
  have HCT := Lib.hid (show x.cntT = cts InstD.cnt x.insts + cts LeadD.cnt x.leads from rfl)
  go_enter Try.func61, Try.ntmps61
  have BW := Lib.hid (Below.refl w.heap.size w)
  go_wp2_with fail
  refine (heldInstS_any x.insts (k) _ _ _ _ _ (mks_length _ _) (by have := HY.out; omega) (by omega) (by have := HCT.out; have := HK2.out; omega) (S0.out.below (by repeat' (first | with_reducible exact Below.refl _ _ | with_reducible exact BW.out | with_reducible refine Below.setCell ?_ ?_ _ | with_reducible refine Below.alloc ?_ ?_ _ | with_reducible refine Below.drew ?_ | (simp; done) | (simp; omega) | omega)))).mono ?_; rintro e w1 ⟨q0, rfl, hq, hb⟩
  have HQ0 := Lib.hid hq; clear hq
  have hq0a : 1 ≤ q0 := by have := HQ0.out; omega
  have hq0b : q0 ≤ 4611686018427387904 := by have := HQ0.out; have := HCT.out; have := HK2.out; omega
  have hq0c : 0 ≤ q0 := by omega
  obtain ⟨hc0, hf0⟩ := bcell hb
  have hz0 : w.heap.size < w1.heap.size := by have := hb.size; (try simp at this); omega
  have B1 := Lib.hid (show Below w.heap.size w w1 from Below.trans (by repeat' (first | with_reducible exact Below.refl _ _ | with_reducible exact BW.out | with_reducible refine Below.setCell ?_ ?_ _ | with_reducible refine Below.alloc ?_ ?_ _ | with_reducible refine Below.drew ?_ | (simp; done) | (simp; omega) | omega)) (hb.mono (by first | (simp; done) | (simp; omega) | omega))); clear BW hb
  have BW := Lib.hid B1.out; clear B1
  go_wp2_with fail
  refine (heldLeadS_any x.leads (k + cts InstD.cnt x.insts) _ _ _ _ _ (mks_length _ _) (by have := HY.out; have := HQ0.out; omega) (by omega) (by have := HCT.out; have := HK2.out; omega) (S1.out.below (by repeat' (first | with_reducible exact Below.refl _ _ | with_reducible exact BW.out | with_reducible refine Below.setCell ?_ ?_ _ | with_reducible refine Below.alloc ?_ ?_ _ | with_reducible refine Below.drew ?_ | (simp; done) | (simp; omega) | omega)))).mono ?_; rintro e w2 ⟨q1, rfl, hq, hb⟩
  have HQ1 := Lib.hid hq; clear hq
  have hq1a : 1 ≤ q1 := by have := HQ1.out; omega
  have hq1b : q1 ≤ 4611686018427387904 := by have := HQ1.out; have := HCT.out; have := HK2.out; omega
  have hq1c : 0 ≤ q1 := by omega
  obtain ⟨hc1, hf1⟩ := bcell hb
  have hz1 : w.heap.size < w2.heap.size := by have := hb.size; (try simp at this); omega
  have B1 := Lib.hid (show Below w.heap.size w w2 from Below.trans (by repeat' (first | with_reducible exact Below.refl _ _ | with_reducible exact BW.out | with_reducible refine Below.setCell ?_ ?_ _ | with_reducible refine Below.alloc ?_ ?_ _ | with_reducible refine Below.drew ?_ | (simp; done) | (simp; omega) | omega)) (hb.mono (by first | (simp; done) | (simp; omega) | omega))); clear BW hb
  have BW := Lib.hid B1.out; clear B1
  go_wp2
  go_ret
  exact ⟨_, rfl, by have := HCT.out; have := HY.out; have := HQ0.out; have := HQ1.out; omega, (by repeat' (first | with_reducible exact Below.refl _ _ | with_reducible exact BW.out | with_reducible refine Below.setCell ?_ ?_ _ | with_reducible refine Below.alloc ?_ ?_ _ | with_reducible refine Below.drew ?_ | (simp; done) | (simp; omega) | omega))⟩

end Go.Proofs.Ytbdblfpepnoafaa
