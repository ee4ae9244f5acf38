/-
  What FnCmds draws: a command, a text, two commands: sizes only. Conditions: a code of at most 2^20 bytes.
-/
import Derived.Test.YtinacpjelephoaaDrawD
namespace Go.Proofs.Ytinacpjelephoaa
open Go.RowKit

set_option maxRecDepth 100000 in
set_option maxHeartbeats 4000000 in
theorem drawShowCmd_x (A0 : Option Addr) (n c : Nat) (xs : List UInt8) (w : World) (hr : Reads w 1 A0 n (xs.map u8v)) (hn : n ≤ 1048576) :
    Calls Try.prog 17 #[.slice A0 n c] w fun e w' => ∃ (d : CmdD) (cs : List Value), e = .returned (.agg cs.toArray) ∧ SmallC 5 d ∧ Mine w' w.heap.size d.c cs ∧ Below w.heap.size w w' := by
  go_enter Try.func17, Try.ntmps17
  go_wp2_with fail
  refine (l1New_x A0 n c xs _ (hr.below ((Below.refl _ _).alloc (Nat.le_refl _) _)) hn).mono ?_
  rintro e w2 ⟨g, rfl, hc2, hb2⟩
  have hgB : w.heap.size + 1 ≤ g := by have h1 := hc2; obtain ⟨_, _, _, _, _, _, _, _, h, _⟩ := h1; simpa using h
  have ZB := Lib.hid (show Blk w2 w.heap.size 38 [.int .i64 0, .int .i64 0, .int .i64 0, .string (bs []), .string (bs []), .string (bs []), .int .i64 0, .slice none 0 0].toArray from (blk_new w _ _).below hb2)
  have BW := Lib.hid (show Below w.heap.size w w2 from Below.trans (by repeat' (first | with_reducible exact Below.refl _ _ | with_reducible exact BW.out | with_reducible refine Below.setCell ?_ ?_ _ | with_reducible refine Below.alloc ?_ ?_ _ | with_reducible refine Below.drew ?_ | (simp; done) | (simp; omega) | omega)) (hb2.mono (by first | (simp; done) | (simp; omega) | omega)))
  have HZ := Lib.hid (show w.heap.size + 1 ≤ w2.heap.size from Nat.le_trans (by simp) hb2.size); clear hb2
  go_wp2_with fail
  refine (l4Cmd_x _ g xs _ _ hc2).mono ?_
  rintro e w3 ⟨⟨d, cs, s3, rfl, hsm, ⟨F, hF, ho⟩, hc3, hg3⟩⟩
  obtain ⟨A, k, F', rfl, rfl, hst⟩ := CmdD.openO ho
  have HM := Lib.hid (show Mine w3 w2.heap.size d.c [.int .i64 d.kind, .int .i64 d.client, .int .i64 d.no, .string (bs d.set), .string (bs d.name), .string (bs d.tag), .int .i64 d.n, .slice A d.chunks.length k] from ⟨_, hF, ho⟩)
  clear ho hst hF hc3
  have HS := Lib.hid hsm; clear hsm
  have X := Lib.hid (ZB.out.grown hg3 (by omega)); clear ZB
  have ZB := Lib.hid X.out; clear X
  have X := Lib.hid (BW.out.grown hg3 BW.out.size (fun k hk => by injection hk with hk; omega)); clear BW hg3
  have BW := Lib.hid X.out; clear X
  obtain ⟨a0, a1, a2, a3, a4, a5, a6, a7⟩ := d
  go_wp2_with (first | ((with_reducible show wpList _ _ _ ({ dst := _, op := Op.store 38 _ _, type := _, pos := _, after := _, guard := _ } :: _) _ _); go_must (refine wpList_store_row _ w.heap.size 38 0 [.int .i64 a0, .int .i64 a1, .int .i64 a2, .string (bs a3), .string (bs a4), .string (bs a5), .int .i64 a6, .slice A a7.length k] [] [.int .i64 0, .int .i64 0, .int .i64 0, .string (bs []), .string (bs []), .string (bs []), .int .i64 0, .slice none 0 0] [] _ rfl rfl agg_Cmd ZB.out rfl rfl rfl (by simp [Value.oneCell']) ?_; intro v10 hzb hzg)) | fail)
  exact bodyPost_cell rfl ⟨w.heap.size, 0, none⟩ rfl [.int .i64 a0, .int .i64 a1, .int .i64 a2, .string (bs a3), .string (bs a4), .string (bs a5), .int .i64 a6, .slice A a7.length k] agg_Cmd rfl (blk_cells hzb) rfl ⟨_, _, rfl, HS.out, HM.out.grownAt hzg (by have := HZ.out; omega) (by have := HZ.out; omega), BW.out.grown hzg BW.out.size (fun k hk => by injection hk with hk; omega)⟩

theorem showCmd_len {d : CmdD} (h : SmallC 5 d) : (showCmdL d).length ≤ 500 := by
  have hp : ∀ x, (sizedL x).length ≤ x.length + 8 := fun x => by
    unfold sizedL
    rw [List.length_append]
    have := varF_length (x.length : Int)
    omega
  obtain ⟨h1, h2, h3, h4, h5⟩ := h
  unfold showCmdL
  split
  · unfold showH
    simp only [List.length_append]
    have e1 := varF_length d.kind
    have e2 := varF_length d.client
    have e3 := varF_length d.no
    have e4 := varF_length d.n
    have e5 := varF_length (d.chunks.length : Int)
    have e6 := hp d.set
    have e7 := hp d.name
    have e8 := hp d.tag
    omega
  · simp
theorem spoilF_len (xs : List UInt8) (s : DSt) (l : List UInt8) : (spoilF xs s l).1.length ≤ l.length + 4 := by
  unfold spoilF
  split
  · have := textF_len xs 3 s
    omega
  · simp only []
    split
    · simp only [List.length_append, List.length_take, List.length_drop]; omega
    · split
      · simp only [List.length_append, List.length_take, List.length_drop, List.length_cons, List.length_nil]; omega
      · split
        · simp only [List.length_take]; omega
        · simp only [List.length_append, List.length_take, List.length_drop, List.length_cons, List.length_nil]; omega
theorem below_trans0 {w a b : World} {B : Nat} (h : Below B w a) (k : Below a.heap.size a b) (hB : B ≤ a.heap.size) : Below B w b := h.trans (k.mono hB)
set_option maxRecDepth 100000 in
set_option maxHeartbeats 4000000 in
theorem drawReadCmd_x (A0 : Option Addr) (n c : Nat) (xs : List UInt8) (w : World) (hr : Reads w 1 A0 n (xs.map u8v)) (hn : n ≤ 1048576) :
    Calls Try.prog 20 #[.slice A0 n c] w fun e w' => ∃ t : List UInt8, e = .returned (.string (bs t)) ∧ t.length ≤ 1000 ∧ Below w.heap.size w w' := by
  go_enter Try.func20, Try.ntmps20
  go_wp2_with fail
  refine (l1New_x A0 n c xs _ hr hn).mono ?_
  rintro e w2 ⟨g, rfl, hc2, hb2⟩
  have hgB : w.heap.size ≤ g := by have h1 := hc2; obtain ⟨_, _, _, _, _, _, _, _, h, _⟩ := h1; exact h
  have BW := Lib.hid hb2; clear hb2
  go_wp2_with fail
  refine (l4Cmd_x _ g xs _ _ hc2).mono ?_
  rintro e w3 ⟨⟨d, cs, s3, rfl, hsm, hm, hc3, hg3⟩⟩
  have X := Lib.hid (BW.out.grown hg3 BW.out.size (fun k hk => by injection hk with hk; omega)); clear BW hg3
  have BW := Lib.hid X.out; clear X
  have hl := showCmd_len hsm
  have HSH := Lib.hid (fun W h => sShowCmd_any d cs W (Nat.le_trans hsm.wt (by omega)) h)
  have HM := Lib.hid hm; clear hm
  have HC := Lib.hid hc3; clear hc3 hc2
  go_wp2_with fail
  refine (HSH.out _ HM.out.rep.any).mono ?_
  rintro e w4 ⟨rfl, hb4⟩
  generalize showCmdL d = sh at *
  have X := Lib.hid (below_trans0 BW.out hb4 BW.out.size); clear BW
  have BW := Lib.hid X.out; clear X
  have X := Lib.hid (HC.out.below hb4); clear HC hb4 HM HSH
  have HC := Lib.hid X.out; clear X
  go_wp2_with fail
  refine (l1Once_e _ g 3 xs _ _ HC.out (by omega) (by omega)).mono ?_
  rintro e w5 ⟨b, s5, rfl, hc5, hg5⟩
  have X := Lib.hid (BW.out.grown hg5 BW.out.size (fun k hk => by injection hk with hk; omega)); clear BW hg5
  have BW := Lib.hid X.out; clear X
  clear HC
  have HC := Lib.hid hc5; clear hc5
  cases b with
  | true =>
    have hsp := spoilF_len xs s5 sh
    have HSP := Lib.hid (fun W h => l1Spoil_x w.heap.size g xs s5 sh W h (by omega))
    generalize spoilF xs s5 sh = R at *
    obtain ⟨r1, r2⟩ := R
    simp only [] at hsp HSP
    go_wp2_with fail
    refine (HSP.out _ HC.out).mono ?_
    rintro e w6 ⟨rfl, hc6, hg6⟩
    have X := Lib.hid (BW.out.grown hg6 BW.out.size (fun k hk => by injection hk with hk; omega)); clear BW hg6 hc6
    have BW := Lib.hid X.out; clear X
    go_wp2
    go_ret
    exact ⟨r1, ret_eq rfl, by omega, BW.out⟩
  | false =>
    go_wp2
    go_ret
    exact ⟨sh, ret_eq rfl, by omega, BW.out⟩

structure ClashPost (w : World) (e : Ending) (w' : World) : Prop where
  out : ∃ (a b : CmdD) (cs cs' : List Value), e = .returned (.tuple #[.agg cs.toArray, .agg cs'.toArray]) ∧ SmallC 5 a ∧ SmallC 5 b ∧ Mine w' w.heap.size a.c cs ∧ Mine w' w.heap.size b.c cs' ∧ Below w.heap.size w w'
theorem bodyPost_cells {P : Program} {fn : Func} {R : Ending → World → Prop} {a : Act} {w : World} {s s2 : Tmp} {t n t2 n2 : Nat} (hres : fn.results = #[.cell s t, .cell s2 t2]) (p p2 : Addr) (hp : a.tmps.getD s undef = .pointer (some p)) (hp2 : a.tmps.getD s2 undef = .pointer (some p2)) (cs cs2 : List Value) (h : Agg P t n) (hl : cs.length = n) (h2 : Agg P t2 n2) (hl2 : cs2.length = n2)
    (hc : ∀ j v, cs[j]? = some v → w.cell? (p.add j) = some v) (hc2 : ∀ j v, cs2[j]? = some v → w.cell? (p2.add j) = some v) (hd : a.defers = []) (hR : R (.returned (.tuple #[.agg cs.toArray, .agg cs2.toArray])) w) : bodyPost P fn R .ret a w := by
  refine bodyPost_ret (v := .tuple #[.agg cs.toArray, .agg cs2.toArray]) ?_ hd hR
  unfold results
  rw [hres]
  have hp' : a.tmps[s]?.getD undef = .pointer (some p) := by simpa using hp
  have hp2' : a.tmps[s2]?.getD undef = .pointer (some p2) := by simpa using hp2
  simp [hp', hp2', asAddr, loadVar, (hl ▸ h : Agg P t cs.length).isAgg, (hl ▸ h : Agg P t cs.length).size, run_loadCells_list (P := P) (w := w) p cs hc, (hl2 ▸ h2 : Agg P t2 cs2.length).isAgg, (hl2 ▸ h2 : Agg P t2 cs2.length).size, run_loadCells_list (P := P) (w := w) p2 cs2 hc2, Result.andThen]
set_option maxRecDepth 100000 in
set_option maxHeartbeats 4000000 in
theorem drawClash_x (A0 : Option Addr) (n c : Nat) (xs : List UInt8) (w : World) (hr : Reads w 1 A0 n (xs.map u8v)) (hn : n ≤ 1048576) :
    Calls Try.prog 22 #[.slice A0 n c] w (ClashPost w) := by
  go_enter Try.func22, Try.ntmps22
  go_wp2_with fail
  refine (l1New_x A0 n c xs _ (hr.below (((Below.refl _ _).alloc (Nat.le_refl _) _).alloc (by simp) _)) hn).mono ?_
  rintro e w2 ⟨g, rfl, hc2, hb2⟩
  have hgB : w.heap.size + 2 ≤ g := by have h1 := hc2; obtain ⟨_, _, _, _, _, _, _, _, h, _⟩ := h1; simpa using h
  have ZB := Lib.hid (show Blk w2 w.heap.size 38 [.int .i64 0, .int .i64 0, .int .i64 0, .string (bs []), .string (bs []), .string (bs []), .int .i64 0, .slice none 0 0].toArray from ((blk_new w _ _).alloc _).below hb2)
  have YB := Lib.hid (show Blk w2 (w.heap.size + 1) 38 [.int .i64 0, .int .i64 0, .int .i64 0, .string (bs []), .string (bs []), .string (bs []), .int .i64 0, .slice none 0 0].toArray from by have h1 := (blk_new (w.alloc (.cells #[.int .i64 0, .int .i64 0, .int .i64 0, .string (bs []), .string (bs []), .string (bs []), .int .i64 0, .slice none 0 0] 38)) #[.int .i64 0, .int .i64 0, .int .i64 0, .string (bs []), .string (bs []), .string (bs []), .int .i64 0, .slice none 0 0] 38).below hb2; simpa using h1)
  have BW := Lib.hid (show Below w.heap.size w w2 from Below.trans (((Below.refl _ _).alloc (Nat.le_refl _) _).alloc (by simp) _) (hb2.mono (by simp <;> omega)))
  have HZ := Lib.hid (show w.heap.size + 2 ≤ w2.heap.size from Nat.le_trans (by simp) hb2.size); clear hb2
  go_wp2_with fail
  refine (l4Cmd_x _ g xs _ _ hc2).mono ?_
  rintro e w3 ⟨⟨d, cs, s3, rfl, hsm, hm, hc3, hg3⟩⟩
  have hg2 := hc2.lt
  have L1 := Lib.hid (show cs.length = 8 from hm.rep.length.trans (CmdD.width _))
  have M1 := Lib.hid hm; clear hm hc2
  have S1 := Lib.hid hsm; clear hsm
  have X := Lib.hid (ZB.out.grown hg3 (by omega)); clear ZB
  have ZB := Lib.hid X.out; clear X
  have X := Lib.hid (YB.out.grown hg3 (by omega)); clear YB
  have YB := Lib.hid X.out; clear X
  have X := Lib.hid (BW.out.grown hg3 BW.out.size (fun k hk => by injection hk with hk; omega)); clear BW
  have BW := Lib.hid X.out; clear X
  have HZ3 := Lib.hid (show w2.heap.size ≤ w3.heap.size from hg3.size); clear hg3
  have HC := Lib.hid hc3; clear hc3
  obtain ⟨gx, hgx⟩ : ∃ x, x = w3.heap.size := ⟨_, rfl⟩
  have HGE := Lib.hid hgx; clear hgx
  go_wp2_with (first | ((with_reducible show wpList _ _ _ ({ dst := _, op := Op.store 38 _ _, type := _, pos := _, after := _, guard := _ } :: _) _ _); go_must (refine wpList_store_row _ w3.heap.size 38 0 cs [] [.int .i64 0, .int .i64 0, .int .i64 0, .string (bs []), .string (bs []), .string (bs []), .int .i64 0, .slice none 0 0] [] _ rfl rfl (L1.out ▸ agg_Cmd) (blk_new w3 _ _) rfl rfl L1.out.symm M1.out.rep.one ?_; intro v4 h4 g4; rw [← HGE.out] at h4 g4 ⊢; have CB := Lib.hid (show Blk v4 gx 38 cs.toArray by simpa using h4); have B4 := Lib.hid (show Below w3.heap.size w3 v4 from Below.grown ((Below.refl _ _).alloc (Nat.le_refl _) _) g4 (by simp) (fun k hk => by injection hk with hk; have := HGE.out; omega)); have HGB := Lib.hid (show gx + 1 ≤ v4.heap.size from Nat.le_trans (by rw [HGE.out]; simp) g4.size); clear h4 g4)) | fail)
  have HG4 := Lib.hid (show w2.heap.size ≤ gx by rw [HGE.out]; exact HZ3.out)
  clear HGE HZ3
  have X := Lib.hid (ZB.out.below B4.out); clear ZB
  have ZB := Lib.hid X.out; clear X
  have X := Lib.hid (YB.out.below B4.out); clear YB
  have YB := Lib.hid X.out; clear X
  have X := Lib.hid (BW.out.trans (B4.out.mono BW.out.size)); clear BW
  have BW := Lib.hid X.out; clear X
  have X := Lib.hid (M1.out.below B4.out); clear M1
  have M1 := Lib.hid X.out; clear X
  have X := Lib.hid (HC.out.below B4.out); clear HC B4
  have HC := Lib.hid X.out; clear X
  refine wp_region_l (fun v => Blk v gx 38 cs.toArray) 3 [0, 1] [2] [3, 4] (by kernel_rfl) (by kernel_rfl) CB.out ?_
  refine wpCr_step rfl (.agg cs.toArray) (fun w' hw' => run_loadN rfl rfl (L1.out ▸ agg_Cmd) (blk_cells hw')) ?_
  refine wpCr_bare rfl (by kernel_rfl) rfl rfl ?_; go_wp2; refine ⟨rfl, ?_⟩
  refine wpCr_nil ?_
  refine wpCz_step rfl ?_
  go_wp2_with fail
  refine (l4Cmd_x _ g xs _ _ (HC.out.keep (show v4.grownBy v4.drew none from ⟨rfl, rfl, rfl, Nat.le_refl _, fun _ _ _ => rfl⟩) (fun k hk => by cases hk))).mono ?_
  rintro e v5 ⟨⟨d2, cs2, s5, rfl, hsm2, hm2, hc5, hg5⟩⟩
  have hz5 : v4.heap.size ≤ v5.heap.size := hg5.size
  have L2 := Lib.hid (show cs2.length = 8 from hm2.rep.length.trans (CmdD.width _))
  have M2 := Lib.hid (show Mine v5 v4.heap.size d2.c cs2 from hm2); clear hm2 hc5 HC
  have S2 := Lib.hid hsm2; clear hsm2
  have X := Lib.hid (ZB.out.drew.grown hg5 (by omega)); clear ZB
  have ZB := Lib.hid X.out; clear X
  have X := Lib.hid (YB.out.drew.grown hg5 (by omega)); clear YB
  have YB := Lib.hid X.out; clear X
  have X := Lib.hid (CB.out.drew.grown hg5 (by have := HG4.out; omega)); clear CB
  have CB := Lib.hid X.out; clear X
  have X := Lib.hid (BW.out.drew.grown hg5 BW.out.size (fun k hk => by injection hk with hk; omega)); clear BW
  have BW := Lib.hid X.out; clear X
  have X := Lib.hid (show Mine v5 w2.heap.size d.c cs from Mine.grownAt (w := v4.drew) (M1.out.below (Below.refl _ _).drew) hg5 (by omega) (Nat.le_refl _)); clear M1 hg5
  have M1 := Lib.hid X.out; clear X
  go_wp2_with fail
  refine ⟨CB.out, ?_⟩
  refine wpCz_nil ?_
  simp only [pickOps, List.getElem?_toArray, List.getElem?_cons_succ, List.getElem?_cons_zero]
  go_wp2_with (first
    | ((with_reducible show wpList _ _ _ ({ dst := _, op := Op.store 38 _ _, type := _, pos := _, after := _, guard := _ } :: _) _ _); refine wpList_store_row _ (w.heap.size + 1) 38 0 cs2 [] [.int .i64 0, .int .i64 0, .int .i64 0, .string (bs []), .string (bs []), .string (bs []), .int .i64 0, .slice none 0 0] [] _ rfl rfl (L2.out ▸ agg_Cmd) Y6.out rfl rfl L2.out.symm M2.out.rep.one ?_; intro v7 h7 g7)
    | ((with_reducible show wpList _ _ _ ({ dst := _, op := Op.store 38 _ _, type := _, pos := _, after := _, guard := _ } :: _) _ _); refine wpList_store_row _ w.heap.size 38 0 cs [] [.int .i64 0, .int .i64 0, .int .i64 0, .string (bs []), .string (bs []), .string (bs []), .int .i64 0, .slice none 0 0] [] _ rfl rfl (L1.out ▸ agg_Cmd) ZB.out rfl rfl L1.out.symm M1.out.rep.one ?_; intro v6 h6 g6; have Y6 := Lib.hid (YB.out.grown g6 (by omega)); have H6 := Lib.hid h6; have G6 := Lib.hid g6; clear h6 g6)
    | fail)
  refine ⟨trivial, ?_⟩
  have h6 := H6.out.grown g7 (by omega)
  have b7 : Below w.heap.size w v7 := (BW.out.grown G6.out BW.out.size (fun k hk => by injection hk with hk; omega)).grown g7 (Nat.le_trans BW.out.size G6.out.size) (fun k hk => by injection hk with hk; omega)
  have hzz := HZ.out
  have h4z := HGB.out
  have h4y := HG4.out
  have m1 : Mine v7 w.heap.size d.c cs := Mine.grownAt (Mine.grownAt M1.out G6.out (by omega) (Nat.le_refl _)) g7 (by omega) (by omega)
  have m2 : Mine v7 w.heap.size d2.c cs2 := Mine.grownAt (Mine.grownAt M2.out G6.out (by omega) (Nat.le_refl _)) g7 (by omega) (by omega)
  have H8 := Lib.hid (And.intro b7 (And.intro m1 m2)); clear b7 m1 m2 hzz h4z h4y
  go_wp2
  exact bodyPost_cells rfl ⟨w.heap.size, 0, none⟩ ⟨w.heap.size + 1, 0, none⟩ rfl rfl cs cs2 agg_Cmd L1.out agg_Cmd L2.out (blk_cells (by simpa using h6)) (blk_cells (by simpa using h7)) rfl ⟨⟨_, _, _, _, rfl, S1.out, S2.out, H8.out.2.1, H8.out.2.2, H8.out.1⟩⟩

end Go.Proofs.Ytinacpjelephoaa
