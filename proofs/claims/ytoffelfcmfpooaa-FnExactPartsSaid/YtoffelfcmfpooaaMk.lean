/-
  The laws' helpers mark* and held*. Conditions: as each contract names them.
-/
import Derived.Test.YtoffelfcmfpooaaEq
namespace Go.Proofs.Ytoffelfcmfpooaa
open Go.RowKit


theorem markText_i (M : Int) (w : World) (h1 : 1 ≤ M) (h2 : M ≤ 9223372036854775807) :
    Calls Try.prog 45 #[.int .i64 M] w fun e w' => e = .returned (.string (bs (markL M.toNat))) ∧ Below w.heap.size w w' := by
  obtain ⟨m, rfl⟩ : ∃ m : Nat, M = (m : Int) := ⟨M.toNat, by omega⟩
  exact markText_any m (by omega) (by omega) w

theorem cons_eq {α : Type} {a b : α} {l m : List α} (h : a = b) (k : l = m) : a :: l = b :: m := by rw [h, k]
theorem mkl_eq {a b : Nat} (h : a = b) : Value.string (bs (markL a)) = .string (bs (markL b)) := by rw [h]
theorem bool_eq {a b : Bool} (h : a = b) : Value.bool a = .bool b := by rw [h]
theorem Own.castL {w : World} {base : Nat} {d : Cs} {cs cs' : List Value} {F : List Nat} (h : Own w base d cs F) (e : cs' = cs) : Own w base d cs' F := e ▸ h
theorem own_cast {w : World} {base e sz n m : Nat} {i : Cs} {vs : List Value} {F : List Nat} (h : Own w base (.sl e sz n i .nil) vs F) (e1 : n = m) : Own w base (.sl e sz m i .nil) vs F := e1 ▸ h
theorem own_len {w : World} {base e sz n c : Nat} {i : Cs} {A : Option Addr} {F : List Nat} (h : Own w base (.sl e sz n i .nil) [.slice A n c] F) : n ≤ 9223372036854775807 := by
  obtain ⟨_, _, _, _, hr, _⟩ := Own.sl1.1 h
  rcases hr.2 with ⟨_, h0⟩ | ⟨g, _, _, _, _, _, h1, h2, _⟩
  · omega
  · simp only [maxLen] at h2; omega
theorem sub_mid {g : Nat} {G1 G2 G3 : List Nat} : ∀ b ∈ g :: G2, b ∈ g :: (G1 ++ (G2 ++ G3)) := by
  intro b hb
  rcases List.mem_cons.1 hb with rfl | hb
  · simp
  · simp [hb]
theorem strb_eq {a b : List UInt8} (h : a = b) : Value.string (bs a) = .string (bs b) := by rw [h]
theorem cts_ge {α : Type} {cnt : α → Nat} (h : ∀ x, 1 ≤ cnt x) : ∀ xs : List α, xs.length ≤ cts cnt xs
  | [] => Nat.zero_le _
  | x :: xs => by have := h x; have := cts_ge h xs; rw [cts, List.length_cons]; omega
theorem mod3 {q : Int} {k : Nat} (h : q = (k : Int)) : (q % 3 == (0 : Int)) = decide (k % 3 = 0) := by
  subst h
  rw [Bool.eq_iff_iff]
  simp only [beq_iff_eq, decide_eq_true_eq]
  omega
theorem below_drewL {w w' : World} (h : Below w.drew.heap.size w.drew w') : Below w.heap.size w w' := ⟨h.os, h.tape, h.output, h.size, h.block⟩
theorem cells_below {w w' : World} {ci : List Value} {p : Addr} (h : ∀ f v, ci[f]? = some v → w.cell? (p.add f) = some v) (hb : Below w.heap.size w w') : ∀ f v, ci[f]? = some v → w'.cell? (p.add f) = some v :=
  fun f v hv => (hb.cell (World.block_lt_of_cell? _ _ (h f v hv))).trans (h f v hv)
theorem disj {a b : List Nat} (h : (a ++ b).Nodup) (x : Nat) (hx : x ∈ a) (hy : x ∈ b) : False := (List.nodup_append.1 h).2.2 x hx x hy rfl
theorem own_sl {w : World} {base e sz n c : Nat} {i : Cs} {A : Option Addr} {F : List Nat} (h : Own w base (.sl e sz n i .nil) [.slice A n c] F) (hn : n ≠ 0) : ∃ g, A = some ⟨g, 0, none⟩ := by
  obtain ⟨_, _, _, _, hr, _⟩ := Own.sl1.1 h
  rcases hr.2 with ⟨_, h0⟩ | ⟨g, _, _, hv, _⟩
  · exact absurd h0 hn
  · injection hv with h1
    exact ⟨g, h1⟩
theorem nodup3 {g : Nat} {G1 G2 G3 : List Nat} (h : (g :: (G1 ++ (G2 ++ G3))).Nodup) : (∀ b ∈ G1 ++ (G2 ++ G3), b ≠ g) ∧ G1.Nodup ∧ G2.Nodup ∧ (∀ b ∈ G1, b ∉ G2) ∧ (∀ b ∈ G1, b ∉ G3) ∧ (∀ b ∈ G2, b ∉ G3) := by
  obtain ⟨h0, h1⟩ := List.nodup_cons.1 h
  obtain ⟨a, b, c⟩ := List.nodup_append.1 h1
  obtain ⟨d, e, f⟩ := List.nodup_append.1 b
  exact ⟨fun b hb e => h0 (e ▸ hb), a, d, fun x hx hy => c x hx x (by simp [hy]) rfl, fun x hx hy => c x hx x (by simp [hy]) rfl, fun x hx hy => f x hx x hy rfl⟩
theorem nodup_l {a b : List Nat} (h : (a ++ b).Nodup) : a.Nodup := (List.nodup_append.1 h).1
theorem nodup_r {a b : List Nat} (h : (a ++ b).Nodup) : b.Nodup := (List.nodup_append.1 h).2.1

set_option maxRecDepth 100000 in
set_option maxHeartbeats 1000000 in
theorem markStringS_any' (xs : List (List UInt8)) (k : Nat) (y0 : Int) (base : Nat) (A : Option Addr) (n c : Nat) (F : List Nat) (w : World) (hn : n = xs.length) (hy0 : y0 = (k : Int)) (hk1 : 1 ≤ k) (hk2 : k + cts (fun _ => 1) xs ≤ 4611686018427387904) (hF : F.Nodup) (h : Own w base (.sl 9 1 n (cat strC xs) .nil) [.slice A n c] F) :
    Calls Try.prog 46 #[.slice A n c, .int .i64 y0] w fun e w' => ∃ q : Int, e = .returned (.int .i64 q) ∧ q = ((k + cts (fun _ => 1) xs : Nat) : Int) ∧ Own w' base (.sl 9 1 n (cat strC (mks (fun _ k => markL k) (fun _ => 1) xs k)) .nil) [.slice A n c] F ∧ Mod F w w' := by
  subst hy0 hn
  obtain ⟨ho, rfl⟩ := h.strs
  rw [cts_one] at hk2
  have hb : (0 : Nat) ≤ w.heap.size := Nat.zero_le _
  refine (markStringS_any 0 _ xs k w hb hk1 hk2 (ownsRow_keep ho fun b hb => ⟨Nat.zero_le _, rfl⟩)).mono fun e w' ⟨a, b, d⟩ => ⟨_, a, by rw [cts_one], ?_, ?_⟩
  · rw [mks_strs]
    refine Own.strs_mk (by rw [marks_length]) (ownsRow_keep b fun b' hb' => ⟨(ho.lt b' hb').1, rfl⟩)
  · exact ⟨d.os, d.tape, d.output, d.size, fun i hi hn => d.block i hi (fun e => hn (by rw [← e]; simp))⟩




















































































set_option maxRecDepth 100000 in
set_option maxHeartbeats 1000000 in
theorem markIdS_any (xs : List IdD) (k : Nat) (y0 : Int) (base : Nat) (A : Option Addr) (n c : Nat) (F : List Nat) (w : World) (hn : n = xs.length) (hy0 : y0 = (k : Int)) (hk1 : 1 ≤ k) (hk2 : k + cts IdD.cnt xs ≤ 4611686018427387904) (hF : F.Nodup) (h : Own w base (.sl 36 2 n (cat IdD.c xs) .nil) [.slice A n c] F) :
    Calls Try.prog 25 #[.slice A n c, .int .i64 y0] w fun e w' => ∃ q : Int, e = .returned (.int .i64 q) ∧ q = ((k + cts IdD.cnt xs : Nat) : Int) ∧ Own w' base (.sl 36 2 n (cat IdD.c (mks IdD.mkv IdD.cnt xs k)) .nil) [.slice A n c] F ∧ Mod F w w' := by
  have HN := Lib.hid hn; clear hn
  have HF := Lib.hid hF; clear hF
  have HK2 := Lib.hid hk2; clear hk2
  have hnb := own_len h
  have H0 := Lib.hid h; clear h
  have HY0 := Lib.hid hy0; clear hy0
  have hy1 : 1 ≤ y0 := by have := HY0.out; omega
  go_enter Try.func25, Try.ntmps25
  go_wp2
  go_loopw [1, 5] (fun kk ii wr => ∃ (j : Nat) (y : Int), j ≤ n ∧ ii = .int .i64 (j : Int) ∧ kk = .int .i64 y ∧ y = ((k + cts IdD.cnt (xs.take j) : Nat) : Int) ∧ Own wr base (.sl 36 2 n (cat IdD.c (mks IdD.mkv IdD.cnt (xs.take j) k ++ xs.drop j)) .nil) [.slice A n c] F ∧ Mod F w wr) (fun _ ii _ => n - (intOf ii).toNat)
  case atStart => exact ⟨0, y0, Nat.zero_le _, rfl, rfl, by simpa [cts] using HY0.out, by simpa [mks] using H0.out, Mod.refl _ _⟩
  case round =>
    obtain ⟨j, y, hj, rfl, rfl, hy, hown, hmod⟩ := hrel
    have hjn : j ≤ xs.length := by have := HN.out; omega
    have hk3 := cts_take_le (cnt := IdD.cnt) xs j
    have hyb : 1 ≤ y ∧ y ≤ 4611686018427387904 := by have := HK2.out; omega
    obtain ⟨hy2, hy3⟩ := hyb
    have HY := Lib.hid hy; clear hy hk3
    have MD := Lib.hid hmod; clear hmod
    by_cases hlt : j < n
    · have hjx : j < xs.length := by have := HN.out; omega
      have hct := cts_take_succ (cnt := IdD.cnt) xs j hjx
      have hct2 := cts_take_le (cnt := IdD.cnt) xs (j + 1)
      have hms := mks_take_succ (mk := IdD.mkv) (cnt := IdD.cnt) xs k j hjx
      rw [mks_take_drop (mk := IdD.mkv) (cnt := IdD.cnt) xs k j hjx] at hown
      obtain ⟨g, rfl⟩ := own_sl hown (by omega)
      obtain ⟨c1, c2, c3, sp, G1, G2, G3, rfl, o1, o2, o3, hl1, hbg, hblk, hre⟩ := own_round IdD.width hown
      rw [mks_length, List.length_take, Nat.min_eq_left hjn] at hl1
      generalize xs[j] = x at *
      obtain ⟨hg1, hnd1, hnd2, hd12, hd13, hd23⟩ := nodup3 HF.out
      obtain ⟨rfl, rfl⟩ := IdD.openO o2
      clear o2 hown
      have O1 := Lib.hid o1; clear o1
      have O3 := Lib.hid o3; clear o3
      have HL := Lib.hid hl1; clear hl1
      have LB := Lib.hid hblk; clear hblk
      have HRE := Lib.hid hre; clear hre
      have HCT := Lib.hid hct; clear hct
      have HCT2 := Lib.hid hct2; clear hct2
      have HMS := Lib.hid hms; clear hms
      have HG := Lib.hid hg1; clear hg1
      have D12 := Lib.hid hd12; clear hd12
      have D13 := Lib.hid hd13; clear hd13
      have D23 := Lib.hid hd23; clear hd23
      have ND2 := Lib.hid hnd2; clear hnd2
      have ND1 := Lib.hid hnd1; clear hnd1
      have MR := Lib.hid (Mod.refl (g :: ([] : List Nat)) wr)
      have hfz : ∀ p, World.frozen? wr ⟨g, p, none⟩ = false := fun p => LB.out.frozen p
      have hc0 : ∃ u, World.cell? wr ⟨g, j * 2, none⟩ = some u := ⟨_, blk_get LB.out HL.out (f := 0) rfl⟩
      obtain ⟨u0, hc0⟩ := hc0
      have hc1 : ∃ u, World.cell? wr ⟨g, j * 2 + 1, none⟩ = some u := ⟨_, blk_get LB.out HL.out (f := 1) rfl⟩
      obtain ⟨u1, hc1⟩ := hc1
      go_wp2
      refine ⟨⟨j + 1, _, by omega, by go_num, rfl, ?_, ?_, ?_⟩, by simp only [intOf]; omega⟩
      · have := HCT.out; have := HY.out; simp only [IdD.cnt] at *; omega
      · rw [HMS.out]
        refine HRE.out _ _ _ (O1.out.mod1 (F' := (g :: ([] : List Nat))) ?_ (fun b hb e => ?_)) (Own.castL (IdD.shutO ) (cons_eq (i64_eq (show (_ : Int) = (IdD.mkv x ((k + cts IdD.cnt (xs.take j)))).rep by have := HY.out; simp only [IdD.mkv, IdD.cnt]; omega)) (cons_eq (i64_eq (show (_ : Int) = (IdD.mkv x ((k + cts IdD.cnt (xs.take j)))).slot by have := HY.out; simp only [IdD.mkv, IdD.cnt]; omega)) rfl))) (O3.out.mod1 (F' := (g :: ([] : List Nat))) ?_ (fun b hb e => ?_)) (blk_put (blk_put LB.out HL.out (f := 0) _ (by simp)) HL.out (f := 1) _ (by simp))
        · exact Mod.trans MR.out (Mod.mono (F := [g]) (by repeat' (first | with_reducible exact Mod.refl _ _ | with_reducible refine Mod.setCell ?_ ?_ _ | with_reducible refine Mod.drew ?_ | (simp; done) | (simp; omega) | omega)) (by simp))
        · rcases List.mem_cons.1 e with e | e
          · exact HG.out b (by simp [hb]) e
          · exact D12.out b hb e
        · exact Mod.trans MR.out (Mod.mono (F := [g]) (by repeat' (first | with_reducible exact Mod.refl _ _ | with_reducible refine Mod.setCell ?_ ?_ _ | with_reducible refine Mod.drew ?_ | (simp; done) | (simp; omega) | omega)) (by simp))
        · rcases List.mem_cons.1 e with e | e
          · exact HG.out b (by simp [hb]) e
          · exact D23.out b e hb
      · exact MD.out.trans (Mod.mono (F := (g :: ([] : List Nat))) (Mod.trans MR.out (Mod.mono (F := [g]) (by repeat' (first | with_reducible exact Mod.refl _ _ | with_reducible refine Mod.setCell ?_ ?_ _ | with_reducible refine Mod.drew ?_ | (simp; done) | (simp; omega) | omega)) (by simp))) sub_mid)
    · have hjn2 : j = n := by omega
      subst hjn2
      rw [List.take_of_length_le (by have := HN.out; omega), List.drop_of_length_le (by have := HN.out; omega), List.append_nil] at hown
      have H1 := Lib.hid hown; clear hown
      have hy4 := HY.out
      rw [List.take_of_length_le (by have := HN.out; omega)] at hy4
      have H4 := Lib.hid hy4; clear hy4
      go_wp2
      go_ret
      exact ⟨_, rfl, H4.out, H1.out, MD.out⟩

































































































set_option maxRecDepth 100000 in
set_option maxHeartbeats 1000000 in
theorem heldStringS_any' (xs : List (List UInt8)) (k : Nat) (y0 : Int) (A : Option Addr) (n c : Nat) (w : World) (hn : n = xs.length) (hy0 : y0 = (k : Int)) (hk1 : 1 ≤ k) (hk2 : k + cts (fun _ => 1) xs ≤ 4611686018427387904) (h : Rep anyB w (.sl 9 1 n (cat strC (mks (fun _ k => markL k) (fun _ => 1) xs k)) .nil) [.slice A n c]) :
    Calls Try.prog 48 #[.slice A n c, .int .i64 y0] w fun e w' => ∃ q : Int, e = .returned (.int .i64 q) ∧ q = ((k + cts (fun _ => 1) xs : Nat) : Int) ∧ Below w.heap.size w w' := by
  subst hy0 hn
  rw [cts_one] at hk2 ⊢
  have h' := h.strs
  rw [mks_strs] at h'
  exact (heldStringS_any _ xs.length k w hk1 hk2 h').mono fun e w' ⟨a, b⟩ => ⟨_, a, rfl, b⟩





















































set_option maxRecDepth 100000 in
set_option maxHeartbeats 1000000 in
theorem heldIdS_any (xs : List IdD) (k : Nat) (y0 : Int) (A : Option Addr) (n c : Nat) (w : World) (hn : n = xs.length) (hy0 : y0 = (k : Int)) (hk1 : 1 ≤ k) (hk2 : k + cts IdD.cnt xs ≤ 4611686018427387904) (h : Rep anyB w (.sl 36 2 n (cat IdD.c (mks IdD.mkv IdD.cnt xs k)) .nil) [.slice A n c]) :
    Calls Try.prog 26 #[.slice A n c, .int .i64 y0] w fun e w' => ∃ q : Int, e = .returned (.int .i64 q) ∧ q = ((k + cts IdD.cnt xs : Nat) : Int) ∧ Below w.heap.size w w' := by
  have hnb : n ≤ 9223372036854775807 := by have := cts_ge (cnt := IdD.cnt) (fun x => by simp only [IdD.cnt]; omega) xs; omega
  have HN := Lib.hid hn; clear hn
  have HK2 := Lib.hid hk2; clear hk2
  have HR := Lib.hid h; clear h
  have HY0 := Lib.hid hy0; clear hy0
  have hy1 : 1 ≤ y0 := by have := HY0.out; omega
  go_enter Try.func26, Try.ntmps26
  go_wp2
  go_loopw [1, 5] (fun kk ii wr => ∃ (j : Nat) (y : Int), j ≤ n ∧ ii = .int .i64 (j : Int) ∧ kk = .int .i64 y ∧ y = ((k + cts IdD.cnt (xs.take j) : Nat) : Int) ∧ Below w.heap.size w wr) (fun _ ii _ => n - (intOf ii).toNat)
  case atStart => exact ⟨0, y0, Nat.zero_le _, rfl, rfl, by simpa [cts] using HY0.out, Below.refl _ _⟩
  case round =>
    obtain ⟨j, y, hj, rfl, rfl, hy, hbel⟩ := hrel
    have hjn : j ≤ xs.length := by have := HN.out; omega
    have hk3 := cts_take_le (cnt := IdD.cnt) xs j
    have hyb : 1 ≤ y ∧ y ≤ 4611686018427387904 := by have := HK2.out; omega
    obtain ⟨hy2, hy3⟩ := hyb
    have HY := Lib.hid hy; clear hy hk3
    have H2 := Lib.hid hbel; clear hbel
    by_cases hlt : j < n
    · have hjx : j < xs.length := by have := HN.out; omega
      have hct := cts_take_succ (cnt := IdD.cnt) xs j hjx
      have hct2 := cts_take_le (cnt := IdD.cnt) xs (j + 1)
      obtain ⟨ad, ci, rfl, _, _, hrc, hl, hc⟩ := (HR.out.below H2.out).elem IdD.width j (by rw [mks_length]; exact hjx) (by rw [mks_length]; exact HN.out)
      rw [mks_get _ _ _ hjx] at hrc
      generalize xs[j] = x at *
      obtain rfl := IdD.open hrc
      clear hrc hl
      have HC := Lib.hid hc; clear hc
      have HCT := Lib.hid hct; clear hct
      have HCT2 := Lib.hid hct2; clear hct2
      have BW := Lib.hid (Below.refl wr.heap.size wr)
      have hc0 : World.cell? wr (ad.add (j * 2)) = some (.int .i64 (y)) := (HC.out 0 _ rfl).trans (congrArg some (i64_eq (show (IdD.mkv x ((k + cts IdD.cnt (xs.take j)))).rep = y by have := HY.out; simp only [IdD.mkv, IdD.cnt]; omega)))
      have hc1 : World.cell? wr ⟨(ad.add (j * 2)).block, (ad.add (j * 2)).off + 1, none⟩ = some (.int .i64 (y + 1)) := (HC.out 1 _ rfl).trans (congrArg some (i64_eq (show (IdD.mkv x ((k + cts IdD.cnt (xs.take j)))).slot = y + 1 by have := HY.out; simp only [IdD.mkv, IdD.cnt]; omega)))
      go_wp2
      exact ⟨⟨j + 1, _, by omega, by go_num, rfl, by have := HCT.out; have := HY.out; simp only [IdD.cnt] at *; omega, H2.out.trans (Below.mono (by repeat' (first | with_reducible exact Below.refl _ _ | with_reducible exact BW.out | with_reducible refine Below.setCell ?_ ?_ _ | with_reducible refine Below.alloc ?_ ?_ _ | with_reducible refine Below.drew ?_ | (simp; done) | (simp; omega) | omega)) H2.out.size)⟩, by simp only [intOf]; omega⟩
    · have hjn2 : j = n := by omega
      subst hjn2
      have hy4 := HY.out
      rw [List.take_of_length_le (by have := HN.out; omega)] at hy4
      have H4 := Lib.hid hy4; clear hy4
      go_wp2
      go_ret
      exact ⟨_, rfl, H4.out, H2.out⟩








































































set_option maxRecDepth 100000 in
set_option maxHeartbeats 1000000 in
theorem markCmd_any (x : CmdD) (k : Nat) (y0 : Int) (base : Nat) (cs : List Value) (F : List Nat) (w : World) (hy0 : y0 = (k : Int)) (hk1 : 1 ≤ k) (hk2 : k + x.cntT ≤ 4611686018427387904) (hF : F.Nodup) (h : Own w base x.c cs F) :
    Calls Try.prog 47 #[.agg cs.toArray, .int .i64 y0] w fun e w' => ∃ q : Int, e = .returned (.int .i64 q) ∧ q = ((k + x.cntT : Nat) : Int) ∧ Own w' base (x.mkT k).c cs F ∧ Mod F w w' := by
  obtain ⟨A0, k0, F0, rfl, rfl, s0⟩ := CmdD.openO h
  have S0 := Lib.hid s0; clear s0
  clear h
  have HK2 := Lib.hid hk2; clear hk2
  have HY := Lib.hid hy0; clear hy0
  have hy1 : 1 ≤ y0 := by have := HY.out; omega
  have HCT := Lib.hid (show x.cntT = cts (fun _ => 1) x.chunks from rfl)
  have LT0 := Lib.hid (fun b hb => (S0.out.in b hb).2)
  have HF := Lib.hid hF; clear hF
  have MW := Lib.hid (Mod.refl (F) w)
  go_enter Try.func47, Try.ntmps47
  go_wp2_with fail
  refine (markStringS_any' x.chunks (k) _ base _ _ _ F _ rfl (by have := HY.out; omega) (by omega) (by have := HCT.out; have := HK2.out; omega) HF.out (S0.out.below (by repeat' (first | with_reducible exact Below.refl _ _ | with_reducible refine Below.alloc ?_ ?_ _ | (simp; done) | (simp; omega) | omega)))).mono ?_; rintro e w1 ⟨q0, rfl, hq, ho, hm⟩
  have HQ0 := Lib.hid hq; clear hq
  have hq0a : 1 ≤ q0 := by have := HQ0.out; omega
  have hq0b : q0 ≤ 4611686018427387904 := by have := HQ0.out; have := HCT.out; have := HK2.out; omega
  have hq0c : 0 ≤ q0 := by omega
  have hc0 : ∀ o, w1.cell? ⟨w.heap.size, o, none⟩ = World.cell? _ ⟨w.heap.size, o, none⟩ := fun o => World.cell?_of_block (hm.block w.heap.size (by simp) (fun hx => Nat.lt_irrefl _ (LT0.out _ hx)))
  have HZ := Lib.hid (show w.heap.size < w1.heap.size from Nat.lt_of_lt_of_le (by simp) hm.size)
  have s0 := ho
  have M1 := Lib.hid (MW.out.trans (Mod.trans (Mod.of_below (by repeat' (first | with_reducible exact Below.refl _ _ | with_reducible refine Below.alloc ?_ ?_ _ | (simp; done) | (simp; omega) | omega)) _) (hm.mono (by intro b hb; simp [hb])))); clear MW
  have MW := Lib.hid M1.out; clear M1
  have S0' := Lib.hid s0; clear S0 s0
  have S0 := Lib.hid S0'.out; clear S0'
  clear ho hm
  go_wp2
  go_ret
  exact ⟨_, rfl, by have := HCT.out; have := HY.out; have := HQ0.out; omega, CmdD.shutO (x := CmdD.mkT x k) (own_cast S0.out (mks_length _ _).symm), MW.out⟩


































































































set_option maxRecDepth 100000 in
set_option maxHeartbeats 1000000 in
theorem markInst_any (x : InstD) (k : Nat) (y0 : Int) (base : Nat) (cs : List Value) (F : List Nat) (w : World) (hy0 : y0 = (k : Int)) (hk1 : 1 ≤ k) (hk2 : k + x.cntT ≤ 4611686018427387904) (hF : F.Nodup) (h : Own w base x.c cs F) :
    Calls Try.prog 15 #[.agg cs.toArray, .int .i64 y0] w fun e w' => ∃ q : Int, e = .returned (.int .i64 q) ∧ q = ((k + x.cntT : Nat) : Int) ∧ Own w' base (x.mkT k).c cs F ∧ Mod F w w' := by
  obtain ⟨A0, k0, A1, k1, F0, F1, rfl, rfl, s0, s1⟩ := InstD.openO h
  have S0 := Lib.hid s0; clear s0
  have S1 := Lib.hid s1; clear s1
  clear h
  have HK2 := Lib.hid hk2; clear hk2
  have HY := Lib.hid hy0; clear hy0
  have hy1 : 1 ≤ y0 := by have := HY.out; omega
  have HCT := Lib.hid (show x.cntT = CmdD.cntT x.cmd + cts IdD.cnt x.deps from rfl)
  have LT0 := Lib.hid (fun b hb => (S0.out.in b hb).2)
  have LT1 := Lib.hid (fun b hb => (S1.out.in b hb).2)
  have HF := Lib.hid hF; clear hF
  have MW := Lib.hid (Mod.refl (F0 ++ (F1)) w)
  go_enter Try.func15, Try.ntmps15
  go_wp2_with fail
  refine (markCmd_any x.cmd (k) _ base _ F0 _ (by have := HY.out; omega) (by omega) (by have := HCT.out; have := HK2.out; omega) (nodup_l HF.out) (CmdD.shutO (S0.out.below (by repeat' (first | with_reducible exact Below.refl _ _ | with_reducible refine Below.alloc ?_ ?_ _ | (simp; done) | (simp; omega) | omega))))).mono ?_; rintro e w1 ⟨q0, rfl, hq, ho0, hm⟩
  obtain ⟨A'0, k'0, F'0, e1, e2, ho⟩ := CmdD.openO ho0
  injection e1 with _ e1
  injection e1 with _ e1
  injection e1 with _ e1
  injection e1 with _ e1
  injection e1 with _ e1
  injection e1 with _ e1
  injection e1 with _ e1
  injection e1 with e1 _
  injection e1 with a1 a2 a3
  subst a1 a3 e2
  rw [← a2] at ho
  clear ho0 a2
  have HQ0 := Lib.hid hq; clear hq
  have hq0a : 1 ≤ q0 := by have := HQ0.out; omega
  have hq0b : q0 ≤ 4611686018427387904 := by have := HQ0.out; have := HCT.out; have := HK2.out; omega
  have hq0c : 0 ≤ q0 := by omega
  have hc0 : ∀ o, w1.cell? ⟨w.heap.size, o, none⟩ = World.cell? _ ⟨w.heap.size, o, none⟩ := fun o => World.cell?_of_block (hm.block w.heap.size (by simp) (fun hx => Nat.lt_irrefl _ (LT0.out _ hx)))
  have HZ := Lib.hid (show w.heap.size < w1.heap.size from Nat.lt_of_lt_of_le (by simp) hm.size)
  have s0 := ho
  have s1 := (S1.out.below (by repeat' (first | with_reducible exact Below.refl _ _ | with_reducible refine Below.alloc ?_ ?_ _ | (simp; done) | (simp; omega) | omega))).mod1 hm (fun b hb e => disj HF.out b e hb)
  have M1 := Lib.hid (MW.out.trans (Mod.trans (Mod.of_below (by repeat' (first | with_reducible exact Below.refl _ _ | with_reducible refine Below.alloc ?_ ?_ _ | (simp; done) | (simp; omega) | omega)) _) (hm.mono (by intro b hb; simp [hb])))); clear MW
  have MW := Lib.hid M1.out; clear M1
  have S0' := Lib.hid s0; clear S0 s0
  have S0 := Lib.hid S0'.out; clear S0'
  have S1' := Lib.hid s1; clear S1 s1
  have S1 := Lib.hid S1'.out; clear S1'
  clear ho hm
  go_wp2_with fail
  refine (markIdS_any x.deps (k + CmdD.cntT x.cmd) _ base _ _ _ F1 _ rfl (by have := HY.out; have := HQ0.out; omega) (by omega) (by have := HCT.out; have := HK2.out; omega) (nodup_r HF.out) (S1.out.below (by repeat' (first | with_reducible exact Below.refl _ _ | with_reducible refine Below.alloc ?_ ?_ _ | (simp; done) | (simp; omega) | omega)))).mono ?_; rintro e w2 ⟨q1, rfl, hq, ho, hm⟩
  have HQ1 := Lib.hid hq; clear hq
  have hq1a : 1 ≤ q1 := by have := HQ1.out; omega
  have hq1b : q1 ≤ 4611686018427387904 := by have := HQ1.out; have := HCT.out; have := HK2.out; omega
  have hq1c : 0 ≤ q1 := by omega
  have hc1 : ∀ o, w2.cell? ⟨w.heap.size, o, none⟩ = World.cell? _ ⟨w.heap.size, o, none⟩ := fun o => World.cell?_of_block (hm.block w.heap.size HZ.out (fun hx => Nat.lt_irrefl _ (LT1.out _ hx)))
  have s0 := (S0.out.below (by repeat' (first | with_reducible exact Below.refl _ _ | with_reducible refine Below.alloc ?_ ?_ _ | (simp; done) | (simp; omega) | omega))).mod1 hm (fun b hb e => disj HF.out b hb e)
  have s1 := ho
  have M1 := Lib.hid (MW.out.trans (Mod.trans (Mod.refl _ _) (hm.mono (by intro b hb; simp [hb])))); clear MW
  have MW := Lib.hid M1.out; clear M1
  have S0' := Lib.hid s0; clear S0 s0
  have S0 := Lib.hid S0'.out; clear S0'
  have S1' := Lib.hid s1; clear S1 s1
  have S1 := Lib.hid S1'.out; clear S1'
  clear ho hm
  go_wp2
  go_ret
  exact ⟨_, rfl, by have := HCT.out; have := HY.out; have := HQ0.out; have := HQ1.out; omega, InstD.shutO (x := InstD.mkT x k) (own_cast S0.out (mks_length _ _).symm) (own_cast S1.out (mks_length _ _).symm), MW.out⟩

























































































































































end Go.Proofs.Ytoffelfcmfpooaa
