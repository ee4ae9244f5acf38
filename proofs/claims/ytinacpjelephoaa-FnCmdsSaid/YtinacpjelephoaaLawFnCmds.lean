/-
  The law on commands (FnCmds) holds for all codes. No condition.
-/
import Derived.Test.YtinacpjelephoaaDrawE
import Derived.Test.YtinacpjelephoaaCmdsLaw
import Derived.Test.YtinacpjelephoaaReadCS
import Derived.Test.YtinacpjelephoaaEnd
import Derived.Test.YtinacpjelephoaaOpen
namespace Go.Proofs.Ytinacpjelephoaa
open Go.RowKit Go.ChangeShapes Go.WideShapes Go.ChangeAt Go.Deep
theorem wf_u8 {x : Int} (h : (Lit.int .u8 x).wf = true) : 0 ≤ x ∧ x < 256 := by
  have h1 : IntKind.u8.min = 0 := rfl
  have h2 : IntKind.u8.max = 255 := rfl
  simp only [Lit.wf, Bool.and_eq_true, decide_eq_true_eq] at h
  omega
def byteOf : Value → UInt8
  | .int _ z => UInt8.ofNat z.toNat
  | _ => 0
theorem open_bytes {H : Type} {enc : TypeId × Value → H} {w : World} {base : Nat} {spare : Nat → Bool} {held : Bool} {v : Value} {d : DataW H} {ps : List MemPlace}
    (hv : ∃ A n c, v = .slice A n c) (h : DataW.Trod enc Try.prog w base spare held 22 v d ps) : ∃ (xs : List UInt8) (A : Option Addr) (n c : Nat), v = .slice A n c ∧ n ≤ 9223372036854775807 ∧ Reads w 1 A n (xs.map u8v) := by
  obtain ⟨A, n, c, rfl⟩ := hv
  obtain ⟨fuel, hf⟩ := h
  rcases open_slice1 Try.underlying22 (by kernel_rfl) hf with ⟨he, _⟩ | ⟨a, len, cap, m, n', V, D, Pl, he, _, hlc, hcm, hmm, _, hx⟩
  · simp [Value.cells] at he
    obtain ⟨rfl, rfl, rfl⟩ := he
    exact ⟨[], none, 0, 0, rfl, by omega, Reads.none_⟩
  · simp [Value.cells] at he
    obtain ⟨rfl, rfl, rfl⟩ := he
    have hlm : n ≤ m := by rw [hmm]; split <;> omega
    refine ⟨(List.range n).map fun i => byteOf (V i), some a, n, c, rfl, by simp only [maxLen] at hcm; omega, by simp, fun _ => ⟨a, rfl, fun j u hu => ?_⟩⟩
    have hj : j < n := by
      have := (List.getElem?_eq_some_iff.1 hu).1
      simpa using this
    obtain ⟨h1, h2⟩ := hx j (by omega)
    obtain ⟨z, hz, _, hwf⟩ := DataW.trod_int Try.underlying5 h2
    have hV : V j = .int .u8 z := by simpa using hz
    have hz2 := wf_u8 hwf
    rw [h1]
    simp only [List.map_map, List.getElem?_map, List.getElem?_range hj, Option.map_some, Function.comp_apply, Option.some.injEq] at hu
    rw [← hu, hV]
    simp only [byteOf, u8v]
    rw [ofNat_toNat (by omega), Int.toNat_of_nonneg hz2.1]
theorem big_any (A : Option Addr) (n c : Nat) (w : World) :
    Calls Try.prog 5 #[.slice A n c] w fun e w' => e = .returned (.bool (decide ((1048576 : Int) < (n : Int)))) ∧ w = w' := by
  go_enter Try.func5, Try.ntmps5
  go_wp2
  go_ret
  exact ⟨ret_eq rfl, rfl⟩
theorem fReadCmd_wt0 (t : List UInt8) : (fReadCmd t).1.c.wt ≤ t.length := by
  unfold fReadCmd
  split
  · exact parseC_wt t
  · exact Nat.zero_le _
set_option maxRecDepth 100000 in
set_option maxHeartbeats 8000000 in
theorem lFnCmds_all (A0 : Option Addr) (n0 c0 : Nat) (xs : List UInt8) (w : World) (h0 : Reads w 1 A0 n0 (xs.map u8v)) :
    Calls Try.prog 4 #[.slice A0 n0 c0] w fun e w' => e = .returned (.bool true) ∧ Below w.heap.size w w' := by
  by_cases hl : n0 ≤ 1048576
  rotate_left
  · have hbig : decide ((1048576 : Int) < (n0 : Int)) = true := by simp; omega
    go_enter Try.func4, Try.ntmps4
    go_wp2_with fail
    refine (big_any A0 n0 c0 _).mono ?_
    rintro e _ ⟨rfl, rfl⟩
    rw [hbig]
    go_wp2_with fail
    go_ret
    exact ⟨ret_eq (by first | rfl | simp), Below.refl _ _⟩
  have hbig : decide ((1048576 : Int) < (n0 : Int)) = false := by simp; omega
  have HB := Lib.hid h0; clear h0
  have HDR := Lib.hid (fun W h => drawReadCmd_x A0 n0 c0 xs W h hl)
  have HDC := Lib.hid (fun W h => drawClash_x A0 n0 c0 xs W h hl)
  go_enter Try.func4, Try.ntmps4
  go_wp2_with fail
  refine (big_any A0 n0 c0 _).mono ?_
  rintro e _ ⟨rfl, rfl⟩
  rw [hbig]
  go_wp2_with fail
  refine (drawShowCmd_x A0 n0 c0 xs _ HB.out hl).mono ?_
  rintro e w1 ⟨d, cs, rfl, hsm, hm, hb⟩
  have B := Lib.hid hb; clear hb
  have hdw := hsm.wt
  have hshl := showCmd_len hsm
  have hlaw := law_ok d
  have hsame := law_same d
  have hxw := fReadCmd_wt0 (showCmdL d)
  have HSI := Lib.hid (fun W h => iShowCmd_any d cs W (Nat.le_trans hdw (by omega)) h)
  have HSS := Lib.hid (fun W h => sShowCmd_any d cs W (Nat.le_trans hdw (by omega)) h)
  have HCS := Lib.hid (fun W h => sCmdOk_any d cs W (Nat.le_trans hdw (by omega)) h)
  have HRI := Lib.hid (fun W => iReadCmd_any (showCmdL d) W (by omega))
  clear hsm
  generalize showCmdL d = sh at *
  generalize fReadCmd sh = Q at *
  obtain ⟨rx, rb⟩ := Q
  simp only [] at hlaw hsame hxw HRI
  subst hlaw
  generalize cmdOkB d = ok at *
  have HSAME := Lib.hid hsame; clear hsame
  have hxw2 := Lib.hid (show rx.c.wt ≤ 1048576 by omega)
  have hdw2 := Lib.hid (show d.c.wt ≤ 1048576 by omega)
  clear hxw hdw hshl
  have L1 := Lib.hid (show cs.length = 8 from hm.rep.length.trans (CmdD.width _))
  have M1 := Lib.hid hm; clear hm
  go_wp2_with (first | ((with_reducible show wpList _ _ _ ({ dst := _, op := Op.store 38 _ _, type := _, pos := _, after := _, guard := _ } :: _) _ _); go_must (refine wpList_store_row _ w1.heap.size 38 0 cs [] [.int .i64 0, .int .i64 0, .int .i64 0, .string (bs []), .string (bs []), .string (bs []), .int .i64 0, .slice none 0 0] [] _ rfl rfl (L1.out ▸ agg_Cmd) (blk_new w1 _ _) rfl rfl L1.out.symm M1.out.rep.one ?_; intro v1 h4 g4; have C1 := Lib.hid (show Blk v1 w1.heap.size 38 cs.toArray by simpa using h4); have D1 := Lib.hid (show Below w1.heap.size w1 v1 from Below.grown ((Below.refl _ _).alloc (Nat.le_refl _) _) g4 (by simp) (fun k hk => by injection hk with hk; omega)); clear h4 g4)) | ((with_reducible show wpList _ _ _ ({ dst := _, op := Op.load 38 _, type := _, pos := _, after := _, guard := _ } :: _) _ _); refine wpList_load_row _ ⟨w1.heap.size, 0, none⟩ rfl cs agg_Cmd L1.out (blk_cells C1.out) ?_) | fail)
  have X := Lib.hid (M1.out.below D1.out); clear M1
  have M1 := Lib.hid X.out; clear X
  have X := Lib.hid (B.out.trans (D1.out.mono B.out.size)); clear B
  have B := Lib.hid X.out; clear X
  clear D1
  refine (HSI.out _ M1.out.rep.any).mono ?_
  rintro e w2 ⟨rfl, hb⟩
  have HX := Lib.hid hb; clear hb HSI
  have X := Lib.hid (M1.out.below HX.out); clear M1
  have M1 := Lib.hid X.out; clear X
  have X := Lib.hid (C1.out.below HX.out); clear C1
  have C1 := Lib.hid X.out; clear X
  have X := Lib.hid (B.out.trans (HX.out.mono B.out.size)); clear B
  have B := Lib.hid X.out; clear X
  clear HX
  go_wp2_with fail
  refine (HRI.out _).mono ?_
  rintro e w3 ⟨cs2, rfl, hm, hb⟩
  have HX := Lib.hid hb; clear hb HRI
  have X := Lib.hid (M1.out.below HX.out); clear M1
  have M1 := Lib.hid X.out; clear X
  have X := Lib.hid (C1.out.below HX.out); clear C1
  have C1 := Lib.hid X.out; clear X
  have X := Lib.hid (B.out.trans (HX.out.mono B.out.size)); clear B
  have B := Lib.hid X.out; clear X
  clear HX
  have L2 := Lib.hid (show cs2.length = 8 from hm.rep.length.trans (CmdD.width _))
  have M2 := Lib.hid hm; clear hm
  go_wp2_with (first | ((with_reducible show wpList _ _ _ ({ dst := _, op := Op.store 38 _ _, type := _, pos := _, after := _, guard := _ } :: _) _ _); go_must (refine wpList_store_row _ w3.heap.size 38 0 cs2 [] [.int .i64 0, .int .i64 0, .int .i64 0, .string (bs []), .string (bs []), .string (bs []), .int .i64 0, .slice none 0 0] [] _ rfl rfl (L2.out ▸ agg_Cmd) (blk_new w3 _ _) rfl rfl L2.out.symm M2.out.rep.one ?_; intro v2 h4 g4; have C2 := Lib.hid (show Blk v2 w3.heap.size 38 cs2.toArray by simpa using h4); have D2 := Lib.hid (show Below w3.heap.size w3 v2 from Below.grown ((Below.refl _ _).alloc (Nat.le_refl _) _) g4 (by simp) (fun k hk => by injection hk with hk; omega)); clear h4 g4)) | fail)
  have X := Lib.hid (M1.out.below D2.out); clear M1
  have M1 := Lib.hid X.out; clear X
  have X := Lib.hid (C1.out.below D2.out); clear C1
  have C1 := Lib.hid X.out; clear X
  have X := Lib.hid (M2.out.below D2.out); clear M2
  have M2 := Lib.hid X.out; clear X
  have X := Lib.hid (B.out.trans (D2.out.mono B.out.size)); clear B
  have B := Lib.hid X.out; clear X
  clear D2
  refine (HDR.out _ (HB.out.below B.out)).mono ?_
  rintro e w4 ⟨t, rfl, htl, hb⟩
  have HX := Lib.hid hb; clear hb HDR
  have X := Lib.hid (M1.out.below HX.out); clear M1
  have M1 := Lib.hid X.out; clear X
  have X := Lib.hid (C1.out.below HX.out); clear C1
  have C1 := Lib.hid X.out; clear X
  have X := Lib.hid (M2.out.below HX.out); clear M2
  have M2 := Lib.hid X.out; clear X
  have X := Lib.hid (C2.out.below HX.out); clear C2
  have C2 := Lib.hid X.out; clear X
  have X := Lib.hid (B.out.trans (HX.out.mono B.out.size)); clear B
  have B := Lib.hid X.out; clear X
  clear HX
  have htw := fReadCmd_wt0 t
  have hback := law_back t
  have HRT := Lib.hid (fun W => iReadCmd_any t W (by omega))
  have HRS := Lib.hid (fun W => sReadCmd_any t W (by omega))
  generalize fReadCmd t = Q at *
  obtain ⟨ry, fx⟩ := Q
  simp only [] at htw hback HRT HRS
  have hyw := Lib.hid (show ry.c.wt ≤ 1048576 by omega)
  have HBACK := Lib.hid hback; clear hback htw htl
  go_wp2_with fail
  refine (HRT.out _).mono ?_
  rintro e w5 ⟨cs3, rfl, hm, hb⟩
  have HX := Lib.hid hb; clear hb HRT
  have X := Lib.hid (M1.out.below HX.out); clear M1
  have M1 := Lib.hid X.out; clear X
  have X := Lib.hid (C1.out.below HX.out); clear C1
  have C1 := Lib.hid X.out; clear X
  have X := Lib.hid (M2.out.below HX.out); clear M2
  have M2 := Lib.hid X.out; clear X
  have X := Lib.hid (C2.out.below HX.out); clear C2
  have C2 := Lib.hid X.out; clear X
  have X := Lib.hid (B.out.trans (HX.out.mono B.out.size)); clear B
  have B := Lib.hid X.out; clear X
  clear HX
  have L3 := Lib.hid (show cs3.length = 8 from hm.rep.length.trans (CmdD.width _))
  have M3 := Lib.hid hm; clear hm
  go_wp2_with (first | ((with_reducible show wpList _ _ _ ({ dst := _, op := Op.store 38 _ _, type := _, pos := _, after := _, guard := _ } :: _) _ _); go_must (refine wpList_store_row _ w5.heap.size 38 0 cs3 [] [.int .i64 0, .int .i64 0, .int .i64 0, .string (bs []), .string (bs []), .string (bs []), .int .i64 0, .slice none 0 0] [] _ rfl rfl (L3.out ▸ agg_Cmd) (blk_new w5 _ _) rfl rfl L3.out.symm M3.out.rep.one ?_; intro v3 h4 g4; have C3 := Lib.hid (show Blk v3 w5.heap.size 38 cs3.toArray by simpa using h4); have D3 := Lib.hid (show Below w5.heap.size w5 v3 from Below.grown ((Below.refl _ _).alloc (Nat.le_refl _) _) g4 (by simp) (fun k hk => by injection hk with hk; omega)); clear h4 g4)) | fail)
  have X := Lib.hid (M1.out.below D3.out); clear M1
  have M1 := Lib.hid X.out; clear X
  have X := Lib.hid (C1.out.below D3.out); clear C1
  have C1 := Lib.hid X.out; clear X
  have X := Lib.hid (M2.out.below D3.out); clear M2
  have M2 := Lib.hid X.out; clear X
  have X := Lib.hid (C2.out.below D3.out); clear C2
  have C2 := Lib.hid X.out; clear X
  have X := Lib.hid (M3.out.below D3.out); clear M3
  have M3 := Lib.hid X.out; clear X
  have X := Lib.hid (B.out.trans (D3.out.mono B.out.size)); clear B
  have B := Lib.hid X.out; clear X
  clear D3
  refine (HRS.out _).mono ?_
  rintro e w6 ⟨cs4, rfl, hm, hb⟩
  have HX := Lib.hid hb; clear hb HRS
  have X := Lib.hid (M1.out.below HX.out); clear M1
  have M1 := Lib.hid X.out; clear X
  have X := Lib.hid (C1.out.below HX.out); clear C1
  have C1 := Lib.hid X.out; clear X
  have X := Lib.hid (M2.out.below HX.out); clear M2
  have M2 := Lib.hid X.out; clear X
  have X := Lib.hid (C2.out.below HX.out); clear C2
  have C2 := Lib.hid X.out; clear X
  have X := Lib.hid (M3.out.below HX.out); clear M3
  have M3 := Lib.hid X.out; clear X
  have X := Lib.hid (C3.out.below HX.out); clear C3
  have C3 := Lib.hid X.out; clear X
  have X := Lib.hid (B.out.trans (HX.out.mono B.out.size)); clear B
  have B := Lib.hid X.out; clear X
  clear HX
  have L4 := Lib.hid (show cs4.length = 8 from hm.rep.length.trans (CmdD.width _))
  have M4 := Lib.hid hm; clear hm
  go_wp2_with (first | ((with_reducible show wpList _ _ _ ({ dst := _, op := Op.store 38 _ _, type := _, pos := _, after := _, guard := _ } :: _) _ _); go_must (refine wpList_store_row _ w6.heap.size 38 0 cs4 [] [.int .i64 0, .int .i64 0, .int .i64 0, .string (bs []), .string (bs []), .string (bs []), .int .i64 0, .slice none 0 0] [] _ rfl rfl (L4.out ▸ agg_Cmd) (blk_new w6 _ _) rfl rfl L4.out.symm M4.out.rep.one ?_; intro v4 h4 g4; have C4 := Lib.hid (show Blk v4 w6.heap.size 38 cs4.toArray by simpa using h4); have D4 := Lib.hid (show Below w6.heap.size w6 v4 from Below.grown ((Below.refl _ _).alloc (Nat.le_refl _) _) g4 (by simp) (fun k hk => by injection hk with hk; omega)); clear h4 g4)) | fail)
  have X := Lib.hid (M1.out.below D4.out); clear M1
  have M1 := Lib.hid X.out; clear X
  have X := Lib.hid (C1.out.below D4.out); clear C1
  have C1 := Lib.hid X.out; clear X
  have X := Lib.hid (M2.out.below D4.out); clear M2
  have M2 := Lib.hid X.out; clear X
  have X := Lib.hid (C2.out.below D4.out); clear C2
  have C2 := Lib.hid X.out; clear X
  have X := Lib.hid (M3.out.below D4.out); clear M3
  have M3 := Lib.hid X.out; clear X
  have X := Lib.hid (C3.out.below D4.out); clear C3
  have C3 := Lib.hid X.out; clear X
  have X := Lib.hid (M4.out.below D4.out); clear M4
  have M4 := Lib.hid X.out; clear X
  have X := Lib.hid (B.out.trans (D4.out.mono B.out.size)); clear B
  have B := Lib.hid X.out; clear X
  clear D4
  refine (HDC.out _ (HB.out.below B.out)).mono ?_
  rintro e w7 ⟨⟨a, b, csa, csb, rfl, hsa, hsb, hma, hmb, hb⟩⟩
  have HX := Lib.hid hb; clear hb HDC HB L4 M4 C4
  have X := Lib.hid (M1.out.below HX.out); clear M1
  have M1 := Lib.hid X.out; clear X
  have X := Lib.hid (C1.out.below HX.out); clear C1
  have C1 := Lib.hid X.out; clear X
  have X := Lib.hid (M2.out.below HX.out); clear M2
  have M2 := Lib.hid X.out; clear X
  have X := Lib.hid (C2.out.below HX.out); clear C2
  have C2 := Lib.hid X.out; clear X
  have X := Lib.hid (M3.out.below HX.out); clear M3
  have M3 := Lib.hid X.out; clear X
  have X := Lib.hid (C3.out.below HX.out); clear C3
  have C3 := Lib.hid X.out; clear X
  have X := Lib.hid (B.out.trans (HX.out.mono B.out.size)); clear B
  have B := Lib.hid X.out; clear X
  clear HX
  have haw := Nat.le_trans hsa.wt (show 200 ≤ 1048576 by omega)
  have hbw := Nat.le_trans hsb.wt (show 200 ≤ 1048576 by omega)
  clear hsa hsb
  have LA := Lib.hid (show csa.length = 8 from hma.rep.length.trans (CmdD.width _))
  have LB := Lib.hid (show csb.length = 8 from hmb.rep.length.trans (CmdD.width _))
  have KA := Lib.hid (show csa[0]? = some (.int .i64 a.kind) by obtain ⟨_, _, hq, _⟩ := CmdD.open hma.rep; rw [hq]; rfl)
  have MA := Lib.hid hma; clear hma
  have MB := Lib.hid hmb; clear hmb
  have hcomm := clash_comm b a
  have hself := clash_self a
  have HAB := Lib.hid (fun W h h' => iClash_any a b csa csb W haw hbw h h')
  have HSB := Lib.hid (fun W h h' => sClash_any a b csa csb W haw hbw h h')
  have HBA := Lib.hid (fun W h h' => iClash_any b a csb csa W hbw haw h h')
  have HAZ := Lib.hid (fun W h => iClash_any a zeroCmd csa [.int .i64 0, .int .i64 0, .int .i64 0, .string (bs []), .string (bs []), .string (bs []), .int .i64 0, .slice none 0 0] W haw (by decide) h (zero_rep W))
  have HAA := Lib.hid (fun W h => iClash_any a a csa csa W haw haw h h)
  have HOK := Lib.hid (fun W h => iCmdOk_any a csa W haw h)
  rw [hcomm] at HBA
  rw [clash_zero] at HAZ
  clear hcomm haw hbw
  generalize clashB a b = kab at *
  generalize clashB a a = kaa at *
  generalize cmdOkB a = oka at *
  obtain ⟨kd, hkd⟩ : ∃ k, k = a.kind := ⟨_, rfl⟩
  rw [← hkd] at KA hself
  clear hkd
  have HSELF := Lib.hid hself; clear hself
  go_wp2_with (first
    | ((with_reducible show wpList _ _ _ ({ dst := _, op := Op.store 38 _ _, type := _, pos := _, after := _, guard := _ } :: _) _ _); refine wpList_store_row _ (w7.heap.size + 1) 38 0 csb [] [.int .i64 0, .int .i64 0, .int .i64 0, .string (bs []), .string (bs []), .string (bs []), .int .i64 0, .slice none 0 0] [] _ rfl rfl (LB.out ▸ agg_Cmd) YB.out rfl rfl LB.out.symm MB.out.rep.one ?_; intro v9 h9 g9; have CA := Lib.hid (show Blk v9 w7.heap.size 38 csa.toArray from by have h1 := H8.out.grown g9 (by omega); simpa using h1); have CB := Lib.hid (show Blk v9 (w7.heap.size + 1) 38 csb.toArray from by simpa using h9); have HX := Lib.hid (show Below w7.heap.size w7 v9 from Below.grown (Below.grown (((Below.refl _ _).alloc (Nat.le_refl _) _).alloc (by simp) _) G8.out (by simp <;> omega) (fun k hk => by injection hk with hk; omega)) g9 (Nat.le_trans (by simp <;> omega) G8.out.size) (fun k hk => by injection hk with hk; omega)); clear h9 g9 H8 G8 YB; have X := Lib.hid (M1.out.below HX.out); clear M1; have M1 := Lib.hid X.out; clear X; have X := Lib.hid (C1.out.below HX.out); clear C1; have C1 := Lib.hid X.out; clear X; have X := Lib.hid (M2.out.below HX.out); clear M2; have M2 := Lib.hid X.out; clear X; have X := Lib.hid (C2.out.below HX.out); clear C2; have C2 := Lib.hid X.out; clear X; have X := Lib.hid (M3.out.below HX.out); clear M3; have M3 := Lib.hid X.out; clear X; have X := Lib.hid (C3.out.below HX.out); clear C3; have C3 := Lib.hid X.out; clear X; have X := Lib.hid (MA.out.below HX.out); clear MA; have MA := Lib.hid X.out; clear X; have X := Lib.hid (MB.out.below HX.out); clear MB; have MB := Lib.hid X.out; clear X; have X := Lib.hid (B.out.trans (HX.out.mono B.out.size)); clear B; have B := Lib.hid X.out; clear X; clear HX)
    | ((with_reducible show wpList _ _ _ ({ dst := _, op := Op.store 38 _ _, type := _, pos := _, after := _, guard := _ } :: _) _ _); go_must (refine wpList_store_row _ w7.heap.size 38 0 csa [] [.int .i64 0, .int .i64 0, .int .i64 0, .string (bs []), .string (bs []), .string (bs []), .int .i64 0, .slice none 0 0] [] _ rfl rfl (LA.out ▸ agg_Cmd) ((blk_new w7 _ _).alloc _) rfl rfl LA.out.symm MA.out.rep.one ?_; intro v8 h8 g8; have YB := Lib.hid (show Blk v8 (w7.heap.size + 1) 38 [.int .i64 0, .int .i64 0, .int .i64 0, .string (bs []), .string (bs []), .string (bs []), .int .i64 0, .slice none 0 0].toArray from by have h1 := (blk_new (w7.alloc (.cells #[.int .i64 0, .int .i64 0, .int .i64 0, .string (bs []), .string (bs []), .string (bs []), .int .i64 0, .slice none 0 0] 38)) #[.int .i64 0, .int .i64 0, .int .i64 0, .string (bs []), .string (bs []), .string (bs []), .int .i64 0, .slice none 0 0] 38).grown g8 (by simp); simpa using h1); have H8 := Lib.hid h8; have G8 := Lib.hid g8; clear h8 g8))
    | ((with_reducible show wpList _ _ _ ({ dst := _, op := Op.load 38 _, type := _, pos := _, after := _, guard := _ } :: _) _ _); first | refine wpList_load_row_g _ (by rfl) ⟨w1.heap.size, 0, none⟩ rfl cs agg_Cmd L1.out (blk_cells C1.out) ?_ | refine wpList_load_row_g _ (by rfl) ⟨w3.heap.size, 0, none⟩ rfl cs2 agg_Cmd L2.out (blk_cells C2.out) ?_ | refine wpList_load_row_g _ (by rfl) ⟨w5.heap.size, 0, none⟩ rfl cs3 agg_Cmd L3.out (blk_cells C3.out) ?_)
    | fail)
  refine (HSS.out _ M1.out.rep.any).mono ?_
  rintro e w8 ⟨rfl, hb⟩
  have HX := Lib.hid hb; clear hb HSS
  have X := Lib.hid (M1.out.below HX.out); clear M1
  have M1 := Lib.hid X.out; clear X
  have X := Lib.hid (C1.out.below HX.out); clear C1
  have C1 := Lib.hid X.out; clear X
  have X := Lib.hid (M2.out.below HX.out); clear M2
  have M2 := Lib.hid X.out; clear X
  have X := Lib.hid (C2.out.below HX.out); clear C2
  have C2 := Lib.hid X.out; clear X
  have X := Lib.hid (M3.out.below HX.out); clear M3
  have M3 := Lib.hid X.out; clear X
  have X := Lib.hid (C3.out.below HX.out); clear C3
  have C3 := Lib.hid X.out; clear X
  have X := Lib.hid (MA.out.below HX.out); clear MA
  have MA := Lib.hid X.out; clear X
  have X := Lib.hid (MB.out.below HX.out); clear MB
  have MB := Lib.hid X.out; clear X
  have X := Lib.hid (CA.out.below HX.out); clear CA
  have CA := Lib.hid X.out; clear X
  have X := Lib.hid (CB.out.below HX.out); clear CB
  have CB := Lib.hid X.out; clear X
  have X := Lib.hid (B.out.trans (HX.out.mono B.out.size)); clear B
  have B := Lib.hid X.out; clear X
  clear HX
  go_wp2_with (first | ((with_reducible show wpList _ _ _ ({ dst := _, op := Op.load 38 _, type := _, pos := _, after := _, guard := _ } :: _) _ _); first | refine wpList_load_row_g _ (by rfl) ⟨w1.heap.size, 0, none⟩ rfl cs agg_Cmd L1.out (blk_cells C1.out) ?_ | refine wpList_load_row_g _ (by rfl) ⟨w3.heap.size, 0, none⟩ rfl cs2 agg_Cmd L2.out (blk_cells C2.out) ?_ | refine wpList_load_row_g _ (by rfl) ⟨w5.heap.size, 0, none⟩ rfl cs3 agg_Cmd L3.out (blk_cells C3.out) ?_) | fail)
  refine (HCS.out _ M1.out.rep.any).mono ?_
  rintro e w9 ⟨rfl, hb⟩
  have HX := Lib.hid hb; clear hb HCS
  have X := Lib.hid (M1.out.below HX.out); clear M1
  have M1 := Lib.hid X.out; clear X
  have X := Lib.hid (C1.out.below HX.out); clear C1
  have C1 := Lib.hid X.out; clear X
  have X := Lib.hid (M2.out.below HX.out); clear M2
  have M2 := Lib.hid X.out; clear X
  have X := Lib.hid (C2.out.below HX.out); clear C2
  have C2 := Lib.hid X.out; clear X
  have X := Lib.hid (M3.out.below HX.out); clear M3
  have M3 := Lib.hid X.out; clear X
  have X := Lib.hid (C3.out.below HX.out); clear C3
  have C3 := Lib.hid X.out; clear X
  have X := Lib.hid (MA.out.below HX.out); clear MA
  have MA := Lib.hid X.out; clear X
  have X := Lib.hid (MB.out.below HX.out); clear MB
  have MB := Lib.hid X.out; clear X
  have X := Lib.hid (CA.out.below HX.out); clear CA
  have CA := Lib.hid X.out; clear X
  have X := Lib.hid (CB.out.below HX.out); clear CB
  have CB := Lib.hid X.out; clear X
  have X := Lib.hid (B.out.trans (HX.out.mono B.out.size)); clear B
  have B := Lib.hid X.out; clear X
  clear HX
  cases ok with
  | true =>
    go_wp2_with (first | ((with_reducible show wpList _ _ _ ({ dst := _, op := Op.load 38 _, type := _, pos := _, after := _, guard := _ } :: _) _ _); first | refine wpList_load_row_g _ (by rfl) ⟨w1.heap.size, 0, none⟩ rfl cs agg_Cmd L1.out (blk_cells C1.out) ?_ | refine wpList_load_row_g _ (by rfl) ⟨w3.heap.size, 0, none⟩ rfl cs2 agg_Cmd L2.out (blk_cells C2.out) ?_ | refine wpList_load_row_g _ (by rfl) ⟨w5.heap.size, 0, none⟩ rfl cs3 agg_Cmd L3.out (blk_cells C3.out) ?_) | fail)
    refine (iSameCmd_any rx d cs2 cs _ hxw2.out hdw2.out M2.out.rep.any M1.out.rep.any).mono ?_
    rintro e w10 ⟨rfl, hb⟩
    rw [HSAME.out (by first | rfl | trivial)]
    have HX := Lib.hid hb; clear hb
    have X := Lib.hid (M1.out.below HX.out); clear M1
    have M1 := Lib.hid X.out; clear X
    have X := Lib.hid (C1.out.below HX.out); clear C1
    have C1 := Lib.hid X.out; clear X
    have X := Lib.hid (M2.out.below HX.out); clear M2
    have M2 := Lib.hid X.out; clear X
    have X := Lib.hid (C2.out.below HX.out); clear C2
    have C2 := Lib.hid X.out; clear X
    have X := Lib.hid (M3.out.below HX.out); clear M3
    have M3 := Lib.hid X.out; clear X
    have X := Lib.hid (C3.out.below HX.out); clear C3
    have C3 := Lib.hid X.out; clear X
    have X := Lib.hid (MA.out.below HX.out); clear MA
    have MA := Lib.hid X.out; clear X
    have X := Lib.hid (MB.out.below HX.out); clear MB
    have MB := Lib.hid X.out; clear X
    have X := Lib.hid (CA.out.below HX.out); clear CA
    have CA := Lib.hid X.out; clear X
    have X := Lib.hid (CB.out.below HX.out); clear CB
    have CB := Lib.hid X.out; clear X
    have X := Lib.hid (B.out.trans (HX.out.mono B.out.size)); clear B
    have B := Lib.hid X.out; clear X
    clear HX
    cases fx with
    | true =>
      go_wp2_with (first | ((with_reducible show wpList _ _ _ ({ dst := _, op := Op.load 38 _, type := _, pos := _, after := _, guard := _ } :: _) _ _); first | refine wpList_load_row_g _ (by rfl) ⟨w1.heap.size, 0, none⟩ rfl cs agg_Cmd L1.out (blk_cells C1.out) ?_ | refine wpList_load_row_g _ (by rfl) ⟨w3.heap.size, 0, none⟩ rfl cs2 agg_Cmd L2.out (blk_cells C2.out) ?_ | refine wpList_load_row_g _ (by rfl) ⟨w5.heap.size, 0, none⟩ rfl cs3 agg_Cmd L3.out (blk_cells C3.out) ?_) | fail)
      refine (iShowCmd_any ry cs3 _ hyw.out M3.out.rep.any).mono ?_
      rintro e w11 ⟨rfl, hb⟩
      rw [HBACK.out (by first | rfl | trivial)]
      have HX := Lib.hid hb; clear hb
      have X := Lib.hid (M1.out.below HX.out); clear M1
      have M1 := Lib.hid X.out; clear X
      have X := Lib.hid (C1.out.below HX.out); clear C1
      have C1 := Lib.hid X.out; clear X
      have X := Lib.hid (M2.out.below HX.out); clear M2
      have M2 := Lib.hid X.out; clear X
      have X := Lib.hid (C2.out.below HX.out); clear C2
      have C2 := Lib.hid X.out; clear X
      have X := Lib.hid (M3.out.below HX.out); clear M3
      have M3 := Lib.hid X.out; clear X
      have X := Lib.hid (C3.out.below HX.out); clear C3
      have C3 := Lib.hid X.out; clear X
      have X := Lib.hid (MA.out.below HX.out); clear MA
      have MA := Lib.hid X.out; clear X
      have X := Lib.hid (MB.out.below HX.out); clear MB
      have MB := Lib.hid X.out; clear X
      have X := Lib.hid (CA.out.below HX.out); clear CA
      have CA := Lib.hid X.out; clear X
      have X := Lib.hid (CB.out.below HX.out); clear CB
      have CB := Lib.hid X.out; clear X
      have X := Lib.hid (B.out.trans (HX.out.mono B.out.size)); clear B
      have B := Lib.hid X.out; clear X
      clear HX
      go_wp2_with fail
      clear M1 M2 M3 C1 C2 C3
      cases oka with
      | false =>
        refine wp_region_x 38 [0, 1, 3, 4, 2, 5, 6, 7, 8, 9, 11, 12, 10, 13, 14, 15, 16, 17, 18, 19, 20, 21, 22, 23, 24, 25, 26, 27, 28, 29, 30, 31, 32, 33, 34, 35, 36, 37] (by kernel_rfl) (by kernel_rfl) ?_
        have X := Lib.hid B.out.drew; clear B
        have B := Lib.hid X.out; clear X
        have X := Lib.hid CA.out.drew; clear CA
        have CA := Lib.hid X.out; clear X
        have X := Lib.hid CB.out.drew; clear CB
        have CB := Lib.hid X.out; clear X
        have X := Lib.hid (MA.out.below (Below.refl _ _).drew); clear MA
        have MA := Lib.hid X.out; clear X
        have X := Lib.hid (MB.out.below (Below.refl _ _).drew); clear MB
        have MB := Lib.hid X.out; clear X
        refine wpX_quiet rfl (by kernel_rfl) rfl ?_; go_wp2_with (first | (refine wpList_load_row_g _ (by first | rfl | kernel_rfl) ⟨w7.heap.size, 0, none⟩ rfl csa agg_Cmd LA.out (blk_cells CA.out) ?_) | fail); refine ⟨rfl, ?_⟩
        refine wpX_quiet rfl (by kernel_rfl) rfl ?_; go_wp2_with (first | (refine wpList_load_row_g _ (by first | rfl | kernel_rfl) ⟨w7.heap.size + 1, 0, none⟩ rfl csb agg_Cmd LB.out (blk_cells CB.out) ?_) | fail); refine ⟨rfl, ?_⟩
        refine wpX_quiet rfl (by kernel_rfl) rfl ?_; go_wp2_with (first | (refine wpList_load_row_g _ (by first | rfl | kernel_rfl) ⟨w7.heap.size, 0, none⟩ rfl csa agg_Cmd LA.out (blk_cells CA.out) ?_) | fail); refine ⟨rfl, ?_⟩
        refine wpX_quiet rfl (by kernel_rfl) rfl ?_; go_wp2_with (first | (refine wpList_load_row_g _ (by first | rfl | kernel_rfl) ⟨w7.heap.size + 1, 0, none⟩ rfl csb agg_Cmd LB.out (blk_cells CB.out) ?_) | fail); refine ⟨rfl, ?_⟩
        refine wpX_actor rfl (by kernel_rfl) ?_; go_wp2_with fail
        refine (HAB.out _ MA.out.rep.any MB.out.rep.any).mono ?_
        rintro e y ⟨rfl, hb⟩
        have HX := Lib.hid hb; clear hb
        have X := Lib.hid (MA.out.below HX.out); clear MA
        have MA := Lib.hid X.out; clear X
        have X := Lib.hid (MB.out.below HX.out); clear MB
        have MB := Lib.hid X.out; clear X
        have X := Lib.hid (CA.out.below HX.out); clear CA
        have CA := Lib.hid X.out; clear X
        have X := Lib.hid (CB.out.below HX.out); clear CB
        have CB := Lib.hid X.out; clear X
        have X := Lib.hid (B.out.trans (HX.out.mono B.out.size)); clear B
        have B := Lib.hid X.out; clear X
        go_wp2; refine ⟨Ext.of_below HX.out, ?_⟩
        clear HX
        refine wpX_actor rfl (by kernel_rfl) ?_; go_wp2_with fail
        refine (HSB.out _ MA.out.rep.any MB.out.rep.any).mono ?_
        rintro e y ⟨rfl, hb⟩
        have HX := Lib.hid hb; clear hb
        have X := Lib.hid (MA.out.below HX.out); clear MA
        have MA := Lib.hid X.out; clear X
        have X := Lib.hid (MB.out.below HX.out); clear MB
        have MB := Lib.hid X.out; clear X
        have X := Lib.hid (CA.out.below HX.out); clear CA
        have CA := Lib.hid X.out; clear X
        have X := Lib.hid (CB.out.below HX.out); clear CB
        have CB := Lib.hid X.out; clear X
        have X := Lib.hid (B.out.trans (HX.out.mono B.out.size)); clear B
        have B := Lib.hid X.out; clear X
        go_wp2; refine ⟨Ext.of_below HX.out, ?_⟩
        clear HX
        iterate 2 (refine wpX_quiet rfl (by kernel_rfl) rfl ?_; go_wp2; refine ⟨rfl, ?_⟩)
        refine wpX_quiet rfl (by kernel_rfl) rfl ?_; go_wp2_with (first | (refine wpList_load_row_g _ (by first | rfl | kernel_rfl) ⟨w7.heap.size, 0, none⟩ rfl csa agg_Cmd LA.out (blk_cells CA.out) ?_) | fail); refine ⟨rfl, ?_⟩
        refine wpX_quiet rfl (by kernel_rfl) rfl ?_; go_wp2_with (first | (refine wpList_load_row_g _ (by first | rfl | kernel_rfl) ⟨w7.heap.size + 1, 0, none⟩ rfl csb agg_Cmd LB.out (blk_cells CB.out) ?_) | fail); refine ⟨rfl, ?_⟩
        refine wpX_quiet rfl (by kernel_rfl) rfl ?_; go_wp2_with (first | (refine wpList_load_row_g _ (by first | rfl | kernel_rfl) ⟨w7.heap.size + 1, 0, none⟩ rfl csb agg_Cmd LB.out (blk_cells CB.out) ?_) | fail); refine ⟨rfl, ?_⟩
        refine wpX_quiet rfl (by kernel_rfl) rfl ?_; go_wp2_with (first | (refine wpList_load_row_g _ (by first | rfl | kernel_rfl) ⟨w7.heap.size, 0, none⟩ rfl csa agg_Cmd LA.out (blk_cells CA.out) ?_) | fail); refine ⟨rfl, ?_⟩
        refine wpX_actor rfl (by kernel_rfl) ?_; go_wp2_with fail
        refine (HAB.out _ MA.out.rep.any MB.out.rep.any).mono ?_
        rintro e y ⟨rfl, hb⟩
        have HX := Lib.hid hb; clear hb
        have X := Lib.hid (MA.out.below HX.out); clear MA
        have MA := Lib.hid X.out; clear X
        have X := Lib.hid (MB.out.below HX.out); clear MB
        have MB := Lib.hid X.out; clear X
        have X := Lib.hid (CA.out.below HX.out); clear CA
        have CA := Lib.hid X.out; clear X
        have X := Lib.hid (CB.out.below HX.out); clear CB
        have CB := Lib.hid X.out; clear X
        have X := Lib.hid (B.out.trans (HX.out.mono B.out.size)); clear B
        have B := Lib.hid X.out; clear X
        go_wp2; refine ⟨Ext.of_below HX.out, ?_⟩
        clear HX
        refine wpX_actor rfl (by kernel_rfl) ?_; go_wp2_with fail
        refine (HBA.out _ MB.out.rep.any MA.out.rep.any).mono ?_
        rintro e y ⟨rfl, hb⟩
        have HX := Lib.hid hb; clear hb
        have X := Lib.hid (MA.out.below HX.out); clear MA
        have MA := Lib.hid X.out; clear X
        have X := Lib.hid (MB.out.below HX.out); clear MB
        have MB := Lib.hid X.out; clear X
        have X := Lib.hid (CA.out.below HX.out); clear CA
        have CA := Lib.hid X.out; clear X
        have X := Lib.hid (CB.out.below HX.out); clear CB
        have CB := Lib.hid X.out; clear X
        have X := Lib.hid (B.out.trans (HX.out.mono B.out.size)); clear B
        have B := Lib.hid X.out; clear X
        go_wp2; refine ⟨Ext.of_below HX.out, ?_⟩
        clear HX
        iterate 3 (refine wpX_quiet rfl (by kernel_rfl) rfl ?_; go_wp2; refine ⟨rfl, ?_⟩)
        refine wpX_quiet rfl (by kernel_rfl) rfl ?_; go_wp2_with (first | (refine wpList_load_row_g _ (by first | rfl | kernel_rfl) ⟨w7.heap.size, 0, none⟩ rfl csa agg_Cmd LA.out (blk_cells CA.out) ?_) | fail); refine ⟨rfl, ?_⟩
        iterate 1 (refine wpX_quiet rfl (by kernel_rfl) rfl ?_; go_wp2; refine ⟨rfl, ?_⟩)
        refine wpX_actor rfl (by kernel_rfl) ?_; go_wp2_with fail
        refine (HAZ.out _ MA.out.rep.any).mono ?_
        rintro e y ⟨rfl, hb⟩
        have HX := Lib.hid hb; clear hb
        have X := Lib.hid (MA.out.below HX.out); clear MA
        have MA := Lib.hid X.out; clear X
        have X := Lib.hid (MB.out.below HX.out); clear MB
        have MB := Lib.hid X.out; clear X
        have X := Lib.hid (CA.out.below HX.out); clear CA
        have CA := Lib.hid X.out; clear X
        have X := Lib.hid (CB.out.below HX.out); clear CB
        have CB := Lib.hid X.out; clear X
        have X := Lib.hid (B.out.trans (HX.out.mono B.out.size)); clear B
        have B := Lib.hid X.out; clear X
        go_wp2; refine ⟨Ext.of_below HX.out, ?_⟩
        clear HX
        iterate 3 (refine wpX_quiet rfl (by kernel_rfl) rfl ?_; go_wp2; refine ⟨rfl, ?_⟩)
        refine wpX_quiet rfl (by kernel_rfl) rfl ?_; go_wp2_with (first | (refine wpList_load_row_g _ (by first | rfl | kernel_rfl) ⟨w7.heap.size, 0, none⟩ rfl csa agg_Cmd LA.out (blk_cells CA.out) ?_) | fail); refine ⟨rfl, ?_⟩
        refine wpX_actor rfl (by kernel_rfl) ?_; go_wp2_with fail
        refine (HOK.out _ MA.out.rep.any).mono ?_
        rintro e y ⟨rfl, hb⟩
        have HX := Lib.hid hb; clear hb
        have X := Lib.hid (MA.out.below HX.out); clear MA
        have MA := Lib.hid X.out; clear X
        have X := Lib.hid (MB.out.below HX.out); clear MB
        have MB := Lib.hid X.out; clear X
        have X := Lib.hid (CA.out.below HX.out); clear CA
        have CA := Lib.hid X.out; clear X
        have X := Lib.hid (CB.out.below HX.out); clear CB
        have CB := Lib.hid X.out; clear X
        have X := Lib.hid (B.out.trans (HX.out.mono B.out.size)); clear B
        have B := Lib.hid X.out; clear X
        go_wp2; refine ⟨Ext.of_below HX.out, ?_⟩
        clear HX
        iterate 2 (refine wpX_quiet rfl (by kernel_rfl) rfl ?_; go_wp2; refine ⟨rfl, ?_⟩)
        (iterate 3 (refine wpX_skip2 rfl rfl (by kernel_rfl) ?_)); simp only [List.setIfInBounds_toArray, List.set_cons_succ, List.set_cons_zero]
        iterate 2 (refine wpX_quiet rfl (by kernel_rfl) rfl ?_; go_wp2; refine ⟨rfl, ?_⟩)
        (iterate 3 (refine wpX_skip2 rfl rfl (by kernel_rfl) ?_)); simp only [List.setIfInBounds_toArray, List.set_cons_succ, List.set_cons_zero]
        iterate 3 (refine wpX_quiet rfl (by kernel_rfl) rfl ?_; go_wp2; refine ⟨rfl, ?_⟩)
        refine wpX_nil ?_; try simp only [List.drop_succ_cons, List.drop_zero]
        go_wp2
        go_ret
        exact ⟨ret_eq (by first | rfl | simp), B.out⟩
      | true =>
        cases hk0 : (kd == 0) with
        | true =>
          refine wp_region_x 38 [0, 1, 3, 4, 2, 5, 6, 7, 8, 9, 11, 12, 10, 13, 14, 15, 16, 17, 18, 19, 20, 21, 22, 23, 24, 25, 26, 27, 28, 29, 30, 31, 32, 33, 34, 35, 36, 37] (by kernel_rfl) (by kernel_rfl) ?_
          have X := Lib.hid B.out.drew; clear B
          have B := Lib.hid X.out; clear X
          have X := Lib.hid CA.out.drew; clear CA
          have CA := Lib.hid X.out; clear X
          have X := Lib.hid CB.out.drew; clear CB
          have CB := Lib.hid X.out; clear X
          have X := Lib.hid (MA.out.below (Below.refl _ _).drew); clear MA
          have MA := Lib.hid X.out; clear X
          have X := Lib.hid (MB.out.below (Below.refl _ _).drew); clear MB
          have MB := Lib.hid X.out; clear X
          refine wpX_quiet rfl (by kernel_rfl) rfl ?_; go_wp2_with (first | (refine wpList_load_row_g _ (by first | rfl | kernel_rfl) ⟨w7.heap.size, 0, none⟩ rfl csa agg_Cmd LA.out (blk_cells CA.out) ?_) | fail); refine ⟨rfl, ?_⟩
          refine wpX_quiet rfl (by kernel_rfl) rfl ?_; go_wp2_with (first | (refine wpList_load_row_g _ (by first | rfl | kernel_rfl) ⟨w7.heap.size + 1, 0, none⟩ rfl csb agg_Cmd LB.out (blk_cells CB.out) ?_) | fail); refine ⟨rfl, ?_⟩
          refine wpX_quiet rfl (by kernel_rfl) rfl ?_; go_wp2_with (first | (refine wpList_load_row_g _ (by first | rfl | kernel_rfl) ⟨w7.heap.size, 0, none⟩ rfl csa agg_Cmd LA.out (blk_cells CA.out) ?_) | fail); refine ⟨rfl, ?_⟩
          refine wpX_quiet rfl (by kernel_rfl) rfl ?_; go_wp2_with (first | (refine wpList_load_row_g _ (by first | rfl | kernel_rfl) ⟨w7.heap.size + 1, 0, none⟩ rfl csb agg_Cmd LB.out (blk_cells CB.out) ?_) | fail); refine ⟨rfl, ?_⟩
          refine wpX_actor rfl (by kernel_rfl) ?_; go_wp2_with fail
          refine (HAB.out _ MA.out.rep.any MB.out.rep.any).mono ?_
          rintro e y ⟨rfl, hb⟩
          have HX := Lib.hid hb; clear hb
          have X := Lib.hid (MA.out.below HX.out); clear MA
          have MA := Lib.hid X.out; clear X
          have X := Lib.hid (MB.out.below HX.out); clear MB
          have MB := Lib.hid X.out; clear X
          have X := Lib.hid (CA.out.below HX.out); clear CA
          have CA := Lib.hid X.out; clear X
          have X := Lib.hid (CB.out.below HX.out); clear CB
          have CB := Lib.hid X.out; clear X
          have X := Lib.hid (B.out.trans (HX.out.mono B.out.size)); clear B
          have B := Lib.hid X.out; clear X
          go_wp2; refine ⟨Ext.of_below HX.out, ?_⟩
          clear HX
          refine wpX_actor rfl (by kernel_rfl) ?_; go_wp2_with fail
          refine (HSB.out _ MA.out.rep.any MB.out.rep.any).mono ?_
          rintro e y ⟨rfl, hb⟩
          have HX := Lib.hid hb; clear hb
          have X := Lib.hid (MA.out.below HX.out); clear MA
          have MA := Lib.hid X.out; clear X
          have X := Lib.hid (MB.out.below HX.out); clear MB
          have MB := Lib.hid X.out; clear X
          have X := Lib.hid (CA.out.below HX.out); clear CA
          have CA := Lib.hid X.out; clear X
          have X := Lib.hid (CB.out.below HX.out); clear CB
          have CB := Lib.hid X.out; clear X
          have X := Lib.hid (B.out.trans (HX.out.mono B.out.size)); clear B
          have B := Lib.hid X.out; clear X
          go_wp2; refine ⟨Ext.of_below HX.out, ?_⟩
          clear HX
          iterate 2 (refine wpX_quiet rfl (by kernel_rfl) rfl ?_; go_wp2; refine ⟨rfl, ?_⟩)
          refine wpX_quiet rfl (by kernel_rfl) rfl ?_; go_wp2_with (first | (refine wpList_load_row_g _ (by first | rfl | kernel_rfl) ⟨w7.heap.size, 0, none⟩ rfl csa agg_Cmd LA.out (blk_cells CA.out) ?_) | fail); refine ⟨rfl, ?_⟩
          refine wpX_quiet rfl (by kernel_rfl) rfl ?_; go_wp2_with (first | (refine wpList_load_row_g _ (by first | rfl | kernel_rfl) ⟨w7.heap.size + 1, 0, none⟩ rfl csb agg_Cmd LB.out (blk_cells CB.out) ?_) | fail); refine ⟨rfl, ?_⟩
          refine wpX_quiet rfl (by kernel_rfl) rfl ?_; go_wp2_with (first | (refine wpList_load_row_g _ (by first | rfl | kernel_rfl) ⟨w7.heap.size + 1, 0, none⟩ rfl csb agg_Cmd LB.out (blk_cells CB.out) ?_) | fail); refine ⟨rfl, ?_⟩
          refine wpX_quiet rfl (by kernel_rfl) rfl ?_; go_wp2_with (first | (refine wpList_load_row_g _ (by first | rfl | kernel_rfl) ⟨w7.heap.size, 0, none⟩ rfl csa agg_Cmd LA.out (blk_cells CA.out) ?_) | fail); refine ⟨rfl, ?_⟩
          refine wpX_actor rfl (by kernel_rfl) ?_; go_wp2_with fail
          refine (HAB.out _ MA.out.rep.any MB.out.rep.any).mono ?_
          rintro e y ⟨rfl, hb⟩
          have HX := Lib.hid hb; clear hb
          have X := Lib.hid (MA.out.below HX.out); clear MA
          have MA := Lib.hid X.out; clear X
          have X := Lib.hid (MB.out.below HX.out); clear MB
          have MB := Lib.hid X.out; clear X
          have X := Lib.hid (CA.out.below HX.out); clear CA
          have CA := Lib.hid X.out; clear X
          have X := Lib.hid (CB.out.below HX.out); clear CB
          have CB := Lib.hid X.out; clear X
          have X := Lib.hid (B.out.trans (HX.out.mono B.out.size)); clear B
          have B := Lib.hid X.out; clear X
          go_wp2; refine ⟨Ext.of_below HX.out, ?_⟩
          clear HX
          refine wpX_actor rfl (by kernel_rfl) ?_; go_wp2_with fail
          refine (HBA.out _ MB.out.rep.any MA.out.rep.any).mono ?_
          rintro e y ⟨rfl, hb⟩
          have HX := Lib.hid hb; clear hb
          have X := Lib.hid (MA.out.below HX.out); clear MA
          have MA := Lib.hid X.out; clear X
          have X := Lib.hid (MB.out.below HX.out); clear MB
          have MB := Lib.hid X.out; clear X
          have X := Lib.hid (CA.out.below HX.out); clear CA
          have CA := Lib.hid X.out; clear X
          have X := Lib.hid (CB.out.below HX.out); clear CB
          have CB := Lib.hid X.out; clear X
          have X := Lib.hid (B.out.trans (HX.out.mono B.out.size)); clear B
          have B := Lib.hid X.out; clear X
          go_wp2; refine ⟨Ext.of_below HX.out, ?_⟩
          clear HX
          iterate 3 (refine wpX_quiet rfl (by kernel_rfl) rfl ?_; go_wp2; refine ⟨rfl, ?_⟩)
          refine wpX_quiet rfl (by kernel_rfl) rfl ?_; go_wp2_with (first | (refine wpList_load_row_g _ (by first | rfl | kernel_rfl) ⟨w7.heap.size, 0, none⟩ rfl csa agg_Cmd LA.out (blk_cells CA.out) ?_) | fail); refine ⟨rfl, ?_⟩
          iterate 1 (refine wpX_quiet rfl (by kernel_rfl) rfl ?_; go_wp2; refine ⟨rfl, ?_⟩)
          refine wpX_actor rfl (by kernel_rfl) ?_; go_wp2_with fail
          refine (HAZ.out _ MA.out.rep.any).mono ?_
          rintro e y ⟨rfl, hb⟩
          have HX := Lib.hid hb; clear hb
          have X := Lib.hid (MA.out.below HX.out); clear MA
          have MA := Lib.hid X.out; clear X
          have X := Lib.hid (MB.out.below HX.out); clear MB
          have MB := Lib.hid X.out; clear X
          have X := Lib.hid (CA.out.below HX.out); clear CA
          have CA := Lib.hid X.out; clear X
          have X := Lib.hid (CB.out.below HX.out); clear CB
          have CB := Lib.hid X.out; clear X
          have X := Lib.hid (B.out.trans (HX.out.mono B.out.size)); clear B
          have B := Lib.hid X.out; clear X
          go_wp2; refine ⟨Ext.of_below HX.out, ?_⟩
          clear HX
          iterate 3 (refine wpX_quiet rfl (by kernel_rfl) rfl ?_; go_wp2; refine ⟨rfl, ?_⟩)
          refine wpX_quiet rfl (by kernel_rfl) rfl ?_; go_wp2_with (first | (refine wpList_load_row_g _ (by first | rfl | kernel_rfl) ⟨w7.heap.size, 0, none⟩ rfl csa agg_Cmd LA.out (blk_cells CA.out) ?_) | fail); refine ⟨rfl, ?_⟩
          refine wpX_actor rfl (by kernel_rfl) ?_; go_wp2_with fail
          refine (HOK.out _ MA.out.rep.any).mono ?_
          rintro e y ⟨rfl, hb⟩
          have HX := Lib.hid hb; clear hb
          have X := Lib.hid (MA.out.below HX.out); clear MA
          have MA := Lib.hid X.out; clear X
          have X := Lib.hid (MB.out.below HX.out); clear MB
          have MB := Lib.hid X.out; clear X
          have X := Lib.hid (CA.out.below HX.out); clear CA
          have CA := Lib.hid X.out; clear X
          have X := Lib.hid (CB.out.below HX.out); clear CB
          have CB := Lib.hid X.out; clear X
          have X := Lib.hid (B.out.trans (HX.out.mono B.out.size)); clear B
          have B := Lib.hid X.out; clear X
          go_wp2; refine ⟨Ext.of_below HX.out, ?_⟩
          clear HX
          iterate 3 (refine wpX_quiet rfl (by kernel_rfl) rfl ?_; go_wp2; refine ⟨rfl, ?_⟩)
          have ck := blk_cell0 CA.out 0 KA.out
          iterate 1 (refine wpX_quiet rfl (by kernel_rfl) rfl ?_; go_wp2; refine ⟨rfl, ?_⟩)
          clear ck
          iterate 3 (refine wpX_quiet rfl (by kernel_rfl) rfl ?_; go_wp2; refine ⟨rfl, ?_⟩)
          (iterate 3 (refine wpX_skip2 rfl rfl (by kernel_rfl) ?_)); simp only [List.setIfInBounds_toArray, List.set_cons_succ, List.set_cons_zero]
          iterate 3 (refine wpX_quiet rfl (by kernel_rfl) rfl ?_; go_wp2; refine ⟨rfl, ?_⟩)
          refine wpX_nil ?_; try simp only [List.drop_succ_cons, List.drop_zero]
          go_wp2
          go_ret
          exact ⟨ret_eq (by first | rfl | simp), B.out⟩
        | false =>
          obtain rfl := HSELF.out (by first | rfl | trivial) hk0
          refine wp_region_x 38 [0, 1, 3, 4, 2, 5, 6, 7, 8, 9, 11, 12, 10, 13, 14, 15, 16, 17, 18, 19, 20, 21, 22, 23, 24, 25, 26, 27, 28, 29, 30, 31, 32, 33, 34, 35, 36, 37] (by kernel_rfl) (by kernel_rfl) ?_
          have X := Lib.hid B.out.drew; clear B
          have B := Lib.hid X.out; clear X
          have X := Lib.hid CA.out.drew; clear CA
          have CA := Lib.hid X.out; clear X
          have X := Lib.hid CB.out.drew; clear CB
          have CB := Lib.hid X.out; clear X
          have X := Lib.hid (MA.out.below (Below.refl _ _).drew); clear MA
          have MA := Lib.hid X.out; clear X
          have X := Lib.hid (MB.out.below (Below.refl _ _).drew); clear MB
          have MB := Lib.hid X.out; clear X
          refine wpX_quiet rfl (by kernel_rfl) rfl ?_; go_wp2_with (first | (refine wpList_load_row_g _ (by first | rfl | kernel_rfl) ⟨w7.heap.size, 0, none⟩ rfl csa agg_Cmd LA.out (blk_cells CA.out) ?_) | fail); refine ⟨rfl, ?_⟩
          refine wpX_quiet rfl (by kernel_rfl) rfl ?_; go_wp2_with (first | (refine wpList_load_row_g _ (by first | rfl | kernel_rfl) ⟨w7.heap.size + 1, 0, none⟩ rfl csb agg_Cmd LB.out (blk_cells CB.out) ?_) | fail); refine ⟨rfl, ?_⟩
          refine wpX_quiet rfl (by kernel_rfl) rfl ?_; go_wp2_with (first | (refine wpList_load_row_g _ (by first | rfl | kernel_rfl) ⟨w7.heap.size, 0, none⟩ rfl csa agg_Cmd LA.out (blk_cells CA.out) ?_) | fail); refine ⟨rfl, ?_⟩
          refine wpX_quiet rfl (by kernel_rfl) rfl ?_; go_wp2_with (first | (refine wpList_load_row_g _ (by first | rfl | kernel_rfl) ⟨w7.heap.size + 1, 0, none⟩ rfl csb agg_Cmd LB.out (blk_cells CB.out) ?_) | fail); refine ⟨rfl, ?_⟩
          refine wpX_actor rfl (by kernel_rfl) ?_; go_wp2_with fail
          refine (HAB.out _ MA.out.rep.any MB.out.rep.any).mono ?_
          rintro e y ⟨rfl, hb⟩
          have HX := Lib.hid hb; clear hb
          have X := Lib.hid (MA.out.below HX.out); clear MA
          have MA := Lib.hid X.out; clear X
          have X := Lib.hid (MB.out.below HX.out); clear MB
          have MB := Lib.hid X.out; clear X
          have X := Lib.hid (CA.out.below HX.out); clear CA
          have CA := Lib.hid X.out; clear X
          have X := Lib.hid (CB.out.below HX.out); clear CB
          have CB := Lib.hid X.out; clear X
          have X := Lib.hid (B.out.trans (HX.out.mono B.out.size)); clear B
          have B := Lib.hid X.out; clear X
          go_wp2; refine ⟨Ext.of_below HX.out, ?_⟩
          clear HX
          refine wpX_actor rfl (by kernel_rfl) ?_; go_wp2_with fail
          refine (HSB.out _ MA.out.rep.any MB.out.rep.any).mono ?_
          rintro e y ⟨rfl, hb⟩
          have HX := Lib.hid hb; clear hb
          have X := Lib.hid (MA.out.below HX.out); clear MA
          have MA := Lib.hid X.out; clear X
          have X := Lib.hid (MB.out.below HX.out); clear MB
          have MB := Lib.hid X.out; clear X
          have X := Lib.hid (CA.out.below HX.out); clear CA
          have CA := Lib.hid X.out; clear X
          have X := Lib.hid (CB.out.below HX.out); clear CB
          have CB := Lib.hid X.out; clear X
          have X := Lib.hid (B.out.trans (HX.out.mono B.out.size)); clear B
          have B := Lib.hid X.out; clear X
          go_wp2; refine ⟨Ext.of_below HX.out, ?_⟩
          clear HX
          iterate 2 (refine wpX_quiet rfl (by kernel_rfl) rfl ?_; go_wp2; refine ⟨rfl, ?_⟩)
          refine wpX_quiet rfl (by kernel_rfl) rfl ?_; go_wp2_with (first | (refine wpList_load_row_g _ (by first | rfl | kernel_rfl) ⟨w7.heap.size, 0, none⟩ rfl csa agg_Cmd LA.out (blk_cells CA.out) ?_) | fail); refine ⟨rfl, ?_⟩
          refine wpX_quiet rfl (by kernel_rfl) rfl ?_; go_wp2_with (first | (refine wpList_load_row_g _ (by first | rfl | kernel_rfl) ⟨w7.heap.size + 1, 0, none⟩ rfl csb agg_Cmd LB.out (blk_cells CB.out) ?_) | fail); refine ⟨rfl, ?_⟩
          refine wpX_quiet rfl (by kernel_rfl) rfl ?_; go_wp2_with (first | (refine wpList_load_row_g _ (by first | rfl | kernel_rfl) ⟨w7.heap.size + 1, 0, none⟩ rfl csb agg_Cmd LB.out (blk_cells CB.out) ?_) | fail); refine ⟨rfl, ?_⟩
          refine wpX_quiet rfl (by kernel_rfl) rfl ?_; go_wp2_with (first | (refine wpList_load_row_g _ (by first | rfl | kernel_rfl) ⟨w7.heap.size, 0, none⟩ rfl csa agg_Cmd LA.out (blk_cells CA.out) ?_) | fail); refine ⟨rfl, ?_⟩
          refine wpX_actor rfl (by kernel_rfl) ?_; go_wp2_with fail
          refine (HAB.out _ MA.out.rep.any MB.out.rep.any).mono ?_
          rintro e y ⟨rfl, hb⟩
          have HX := Lib.hid hb; clear hb
          have X := Lib.hid (MA.out.below HX.out); clear MA
          have MA := Lib.hid X.out; clear X
          have X := Lib.hid (MB.out.below HX.out); clear MB
          have MB := Lib.hid X.out; clear X
          have X := Lib.hid (CA.out.below HX.out); clear CA
          have CA := Lib.hid X.out; clear X
          have X := Lib.hid (CB.out.below HX.out); clear CB
          have CB := Lib.hid X.out; clear X
          have X := Lib.hid (B.out.trans (HX.out.mono B.out.size)); clear B
          have B := Lib.hid X.out; clear X
          go_wp2; refine ⟨Ext.of_below HX.out, ?_⟩
          clear HX
          refine wpX_actor rfl (by kernel_rfl) ?_; go_wp2_with fail
          refine (HBA.out _ MB.out.rep.any MA.out.rep.any).mono ?_
          rintro e y ⟨rfl, hb⟩
          have HX := Lib.hid hb; clear hb
          have X := Lib.hid (MA.out.below HX.out); clear MA
          have MA := Lib.hid X.out; clear X
          have X := Lib.hid (MB.out.below HX.out); clear MB
          have MB := Lib.hid X.out; clear X
          have X := Lib.hid (CA.out.below HX.out); clear CA
          have CA := Lib.hid X.out; clear X
          have X := Lib.hid (CB.out.below HX.out); clear CB
          have CB := Lib.hid X.out; clear X
          have X := Lib.hid (B.out.trans (HX.out.mono B.out.size)); clear B
          have B := Lib.hid X.out; clear X
          go_wp2; refine ⟨Ext.of_below HX.out, ?_⟩
          clear HX
          iterate 3 (refine wpX_quiet rfl (by kernel_rfl) rfl ?_; go_wp2; refine ⟨rfl, ?_⟩)
          refine wpX_quiet rfl (by kernel_rfl) rfl ?_; go_wp2_with (first | (refine wpList_load_row_g _ (by first | rfl | kernel_rfl) ⟨w7.heap.size, 0, none⟩ rfl csa agg_Cmd LA.out (blk_cells CA.out) ?_) | fail); refine ⟨rfl, ?_⟩
          iterate 1 (refine wpX_quiet rfl (by kernel_rfl) rfl ?_; go_wp2; refine ⟨rfl, ?_⟩)
          refine wpX_actor rfl (by kernel_rfl) ?_; go_wp2_with fail
          refine (HAZ.out _ MA.out.rep.any).mono ?_
          rintro e y ⟨rfl, hb⟩
          have HX := Lib.hid hb; clear hb
          have X := Lib.hid (MA.out.below HX.out); clear MA
          have MA := Lib.hid X.out; clear X
          have X := Lib.hid (MB.out.below HX.out); clear MB
          have MB := Lib.hid X.out; clear X
          have X := Lib.hid (CA.out.below HX.out); clear CA
          have CA := Lib.hid X.out; clear X
          have X := Lib.hid (CB.out.below HX.out); clear CB
          have CB := Lib.hid X.out; clear X
          have X := Lib.hid (B.out.trans (HX.out.mono B.out.size)); clear B
          have B := Lib.hid X.out; clear X
          go_wp2; refine ⟨Ext.of_below HX.out, ?_⟩
          clear HX
          iterate 3 (refine wpX_quiet rfl (by kernel_rfl) rfl ?_; go_wp2; refine ⟨rfl, ?_⟩)
          refine wpX_quiet rfl (by kernel_rfl) rfl ?_; go_wp2_with (first | (refine wpList_load_row_g _ (by first | rfl | kernel_rfl) ⟨w7.heap.size, 0, none⟩ rfl csa agg_Cmd LA.out (blk_cells CA.out) ?_) | fail); refine ⟨rfl, ?_⟩
          refine wpX_actor rfl (by kernel_rfl) ?_; go_wp2_with fail
          refine (HOK.out _ MA.out.rep.any).mono ?_
          rintro e y ⟨rfl, hb⟩
          have HX := Lib.hid hb; clear hb
          have X := Lib.hid (MA.out.below HX.out); clear MA
          have MA := Lib.hid X.out; clear X
          have X := Lib.hid (MB.out.below HX.out); clear MB
          have MB := Lib.hid X.out; clear X
          have X := Lib.hid (CA.out.below HX.out); clear CA
          have CA := Lib.hid X.out; clear X
          have X := Lib.hid (CB.out.below HX.out); clear CB
          have CB := Lib.hid X.out; clear X
          have X := Lib.hid (B.out.trans (HX.out.mono B.out.size)); clear B
          have B := Lib.hid X.out; clear X
          go_wp2; refine ⟨Ext.of_below HX.out, ?_⟩
          clear HX
          iterate 3 (refine wpX_quiet rfl (by kernel_rfl) rfl ?_; go_wp2; refine ⟨rfl, ?_⟩)
          have ck := blk_cell0 CA.out 0 KA.out
          iterate 1 (refine wpX_quiet rfl (by kernel_rfl) rfl ?_; go_wp2; refine ⟨rfl, ?_⟩)
          clear ck
          iterate 3 (refine wpX_quiet rfl (by kernel_rfl) rfl ?_; go_wp2; refine ⟨rfl, ?_⟩)
          refine wpX_quiet rfl (by kernel_rfl) rfl ?_; go_wp2_with (first | (refine wpList_load_row_g _ (by first | rfl | kernel_rfl) ⟨w7.heap.size, 0, none⟩ rfl csa agg_Cmd LA.out (blk_cells CA.out) ?_) | fail); refine ⟨rfl, ?_⟩
          refine wpX_quiet rfl (by kernel_rfl) rfl ?_; go_wp2_with (first | (refine wpList_load_row_g _ (by first | rfl | kernel_rfl) ⟨w7.heap.size, 0, none⟩ rfl csa agg_Cmd LA.out (blk_cells CA.out) ?_) | fail); refine ⟨rfl, ?_⟩
          refine wpX_actor rfl (by kernel_rfl) ?_; go_wp2_with fail
          refine (HAA.out _ MA.out.rep.any).mono ?_
          rintro e y ⟨rfl, hb⟩
          have HX := Lib.hid hb; clear hb
          have X := Lib.hid (MA.out.below HX.out); clear MA
          have MA := Lib.hid X.out; clear X
          have X := Lib.hid (MB.out.below HX.out); clear MB
          have MB := Lib.hid X.out; clear X
          have X := Lib.hid (CA.out.below HX.out); clear CA
          have CA := Lib.hid X.out; clear X
          have X := Lib.hid (CB.out.below HX.out); clear CB
          have CB := Lib.hid X.out; clear X
          have X := Lib.hid (B.out.trans (HX.out.mono B.out.size)); clear B
          have B := Lib.hid X.out; clear X
          go_wp2; refine ⟨Ext.of_below HX.out, ?_⟩
          clear HX
          iterate 3 (refine wpX_quiet rfl (by kernel_rfl) rfl ?_; go_wp2; refine ⟨rfl, ?_⟩)
          refine wpX_nil ?_; try simp only [List.drop_succ_cons, List.drop_zero]
          go_wp2
          go_ret
          exact ⟨ret_eq (by first | rfl | simp), B.out⟩
    | false =>
      go_wp2_with (first | ((with_reducible show wpList _ _ _ ({ dst := _, op := Op.load 38 _, type := _, pos := _, after := _, guard := _ } :: _) _ _); first | refine wpList_load_row_g _ (by rfl) ⟨w1.heap.size, 0, none⟩ rfl cs agg_Cmd L1.out (blk_cells C1.out) ?_ | refine wpList_load_row_g _ (by rfl) ⟨w3.heap.size, 0, none⟩ rfl cs2 agg_Cmd L2.out (blk_cells C2.out) ?_ | refine wpList_load_row_g _ (by rfl) ⟨w5.heap.size, 0, none⟩ rfl cs3 agg_Cmd L3.out (blk_cells C3.out) ?_) | fail)
      clear M1 M2 M3 C1 C2 C3
      cases oka with
      | false =>
        refine wp_region_x 38 [0, 1, 3, 4, 2, 5, 6, 7, 8, 9, 11, 12, 10, 13, 14, 15, 16, 17, 18, 19, 20, 21, 22, 23, 24, 25, 26, 27, 28, 29, 30, 31, 32, 33, 34, 35, 36, 37] (by kernel_rfl) (by kernel_rfl) ?_
        have X := Lib.hid B.out.drew; clear B
        have B := Lib.hid X.out; clear X
        have X := Lib.hid CA.out.drew; clear CA
        have CA := Lib.hid X.out; clear X
        have X := Lib.hid CB.out.drew; clear CB
        have CB := Lib.hid X.out; clear X
        have X := Lib.hid (MA.out.below (Below.refl _ _).drew); clear MA
        have MA := Lib.hid X.out; clear X
        have X := Lib.hid (MB.out.below (Below.refl _ _).drew); clear MB
        have MB := Lib.hid X.out; clear X
        refine wpX_quiet rfl (by kernel_rfl) rfl ?_; go_wp2_with (first | (refine wpList_load_row_g _ (by first | rfl | kernel_rfl) ⟨w7.heap.size, 0, none⟩ rfl csa agg_Cmd LA.out (blk_cells CA.out) ?_) | fail); refine ⟨rfl, ?_⟩
        refine wpX_quiet rfl (by kernel_rfl) rfl ?_; go_wp2_with (first | (refine wpList_load_row_g _ (by first | rfl | kernel_rfl) ⟨w7.heap.size + 1, 0, none⟩ rfl csb agg_Cmd LB.out (blk_cells CB.out) ?_) | fail); refine ⟨rfl, ?_⟩
        refine wpX_quiet rfl (by kernel_rfl) rfl ?_; go_wp2_with (first | (refine wpList_load_row_g _ (by first | rfl | kernel_rfl) ⟨w7.heap.size, 0, none⟩ rfl csa agg_Cmd LA.out (blk_cells CA.out) ?_) | fail); refine ⟨rfl, ?_⟩
        refine wpX_quiet rfl (by kernel_rfl) rfl ?_; go_wp2_with (first | (refine wpList_load_row_g _ (by first | rfl | kernel_rfl) ⟨w7.heap.size + 1, 0, none⟩ rfl csb agg_Cmd LB.out (blk_cells CB.out) ?_) | fail); refine ⟨rfl, ?_⟩
        refine wpX_actor rfl (by kernel_rfl) ?_; go_wp2_with fail
        refine (HAB.out _ MA.out.rep.any MB.out.rep.any).mono ?_
        rintro e y ⟨rfl, hb⟩
        have HX := Lib.hid hb; clear hb
        have X := Lib.hid (MA.out.below HX.out); clear MA
        have MA := Lib.hid X.out; clear X
        have X := Lib.hid (MB.out.below HX.out); clear MB
        have MB := Lib.hid X.out; clear X
        have X := Lib.hid (CA.out.below HX.out); clear CA
        have CA := Lib.hid X.out; clear X
        have X := Lib.hid (CB.out.below HX.out); clear CB
        have CB := Lib.hid X.out; clear X
        have X := Lib.hid (B.out.trans (HX.out.mono B.out.size)); clear B
        have B := Lib.hid X.out; clear X
        go_wp2; refine ⟨Ext.of_below HX.out, ?_⟩
        clear HX
        refine wpX_actor rfl (by kernel_rfl) ?_; go_wp2_with fail
        refine (HSB.out _ MA.out.rep.any MB.out.rep.any).mono ?_
        rintro e y ⟨rfl, hb⟩
        have HX := Lib.hid hb; clear hb
        have X := Lib.hid (MA.out.below HX.out); clear MA
        have MA := Lib.hid X.out; clear X
        have X := Lib.hid (MB.out.below HX.out); clear MB
        have MB := Lib.hid X.out; clear X
        have X := Lib.hid (CA.out.below HX.out); clear CA
        have CA := Lib.hid X.out; clear X
        have X := Lib.hid (CB.out.below HX.out); clear CB
        have CB := Lib.hid X.out; clear X
        have X := Lib.hid (B.out.trans (HX.out.mono B.out.size)); clear B
        have B := Lib.hid X.out; clear X
        go_wp2; refine ⟨Ext.of_below HX.out, ?_⟩
        clear HX
        iterate 2 (refine wpX_quiet rfl (by kernel_rfl) rfl ?_; go_wp2; refine ⟨rfl, ?_⟩)
        refine wpX_quiet rfl (by kernel_rfl) rfl ?_; go_wp2_with (first | (refine wpList_load_row_g _ (by first | rfl | kernel_rfl) ⟨w7.heap.size, 0, none⟩ rfl csa agg_Cmd LA.out (blk_cells CA.out) ?_) | fail); refine ⟨rfl, ?_⟩
        refine wpX_quiet rfl (by kernel_rfl) rfl ?_; go_wp2_with (first | (refine wpList_load_row_g _ (by first | rfl | kernel_rfl) ⟨w7.heap.size + 1, 0, none⟩ rfl csb agg_Cmd LB.out (blk_cells CB.out) ?_) | fail); refine ⟨rfl, ?_⟩
        refine wpX_quiet rfl (by kernel_rfl) rfl ?_; go_wp2_with (first | (refine wpList_load_row_g _ (by first | rfl | kernel_rfl) ⟨w7.heap.size + 1, 0, none⟩ rfl csb agg_Cmd LB.out (blk_cells CB.out) ?_) | fail); refine ⟨rfl, ?_⟩
        refine wpX_quiet rfl (by kernel_rfl) rfl ?_; go_wp2_with (first | (refine wpList_load_row_g _ (by first | rfl | kernel_rfl) ⟨w7.heap.size, 0, none⟩ rfl csa agg_Cmd LA.out (blk_cells CA.out) ?_) | fail); refine ⟨rfl, ?_⟩
        refine wpX_actor rfl (by kernel_rfl) ?_; go_wp2_with fail
        refine (HAB.out _ MA.out.rep.any MB.out.rep.any).mono ?_
        rintro e y ⟨rfl, hb⟩
        have HX := Lib.hid hb; clear hb
        have X := Lib.hid (MA.out.below HX.out); clear MA
        have MA := Lib.hid X.out; clear X
        have X := Lib.hid (MB.out.below HX.out); clear MB
        have MB := Lib.hid X.out; clear X
        have X := Lib.hid (CA.out.below HX.out); clear CA
        have CA := Lib.hid X.out; clear X
        have X := Lib.hid (CB.out.below HX.out); clear CB
        have CB := Lib.hid X.out; clear X
        have X := Lib.hid (B.out.trans (HX.out.mono B.out.size)); clear B
        have B := Lib.hid X.out; clear X
        go_wp2; refine ⟨Ext.of_below HX.out, ?_⟩
        clear HX
        refine wpX_actor rfl (by kernel_rfl) ?_; go_wp2_with fail
        refine (HBA.out _ MB.out.rep.any MA.out.rep.any).mono ?_
        rintro e y ⟨rfl, hb⟩
        have HX := Lib.hid hb; clear hb
        have X := Lib.hid (MA.out.below HX.out); clear MA
        have MA := Lib.hid X.out; clear X
        have X := Lib.hid (MB.out.below HX.out); clear MB
        have MB := Lib.hid X.out; clear X
        have X := Lib.hid (CA.out.below HX.out); clear CA
        have CA := Lib.hid X.out; clear X
        have X := Lib.hid (CB.out.below HX.out); clear CB
        have CB := Lib.hid X.out; clear X
        have X := Lib.hid (B.out.trans (HX.out.mono B.out.size)); clear B
        have B := Lib.hid X.out; clear X
        go_wp2; refine ⟨Ext.of_below HX.out, ?_⟩
        clear HX
        iterate 3 (refine wpX_quiet rfl (by kernel_rfl) rfl ?_; go_wp2; refine ⟨rfl, ?_⟩)
        refine wpX_quiet rfl (by kernel_rfl) rfl ?_; go_wp2_with (first | (refine wpList_load_row_g _ (by first | rfl | kernel_rfl) ⟨w7.heap.size, 0, none⟩ rfl csa agg_Cmd LA.out (blk_cells CA.out) ?_) | fail); refine ⟨rfl, ?_⟩
        iterate 1 (refine wpX_quiet rfl (by kernel_rfl) rfl ?_; go_wp2; refine ⟨rfl, ?_⟩)
        refine wpX_actor rfl (by kernel_rfl) ?_; go_wp2_with fail
        refine (HAZ.out _ MA.out.rep.any).mono ?_
        rintro e y ⟨rfl, hb⟩
        have HX := Lib.hid hb; clear hb
        have X := Lib.hid (MA.out.below HX.out); clear MA
        have MA := Lib.hid X.out; clear X
        have X := Lib.hid (MB.out.below HX.out); clear MB
        have MB := Lib.hid X.out; clear X
        have X := Lib.hid (CA.out.below HX.out); clear CA
        have CA := Lib.hid X.out; clear X
        have X := Lib.hid (CB.out.below HX.out); clear CB
        have CB := Lib.hid X.out; clear X
        have X := Lib.hid (B.out.trans (HX.out.mono B.out.size)); clear B
        have B := Lib.hid X.out; clear X
        go_wp2; refine ⟨Ext.of_below HX.out, ?_⟩
        clear HX
        iterate 3 (refine wpX_quiet rfl (by kernel_rfl) rfl ?_; go_wp2; refine ⟨rfl, ?_⟩)
        refine wpX_quiet rfl (by kernel_rfl) rfl ?_; go_wp2_with (first | (refine wpList_load_row_g _ (by first | rfl | kernel_rfl) ⟨w7.heap.size, 0, none⟩ rfl csa agg_Cmd LA.out (blk_cells CA.out) ?_) | fail); refine ⟨rfl, ?_⟩
        refine wpX_actor rfl (by kernel_rfl) ?_; go_wp2_with fail
        refine (HOK.out _ MA.out.rep.any).mono ?_
        rintro e y ⟨rfl, hb⟩
        have HX := Lib.hid hb; clear hb
        have X := Lib.hid (MA.out.below HX.out); clear MA
        have MA := Lib.hid X.out; clear X
        have X := Lib.hid (MB.out.below HX.out); clear MB
        have MB := Lib.hid X.out; clear X
        have X := Lib.hid (CA.out.below HX.out); clear CA
        have CA := Lib.hid X.out; clear X
        have X := Lib.hid (CB.out.below HX.out); clear CB
        have CB := Lib.hid X.out; clear X
        have X := Lib.hid (B.out.trans (HX.out.mono B.out.size)); clear B
        have B := Lib.hid X.out; clear X
        go_wp2; refine ⟨Ext.of_below HX.out, ?_⟩
        clear HX
        iterate 2 (refine wpX_quiet rfl (by kernel_rfl) rfl ?_; go_wp2; refine ⟨rfl, ?_⟩)
        (iterate 3 (refine wpX_skip2 rfl rfl (by kernel_rfl) ?_)); simp only [List.setIfInBounds_toArray, List.set_cons_succ, List.set_cons_zero]
        iterate 2 (refine wpX_quiet rfl (by kernel_rfl) rfl ?_; go_wp2; refine ⟨rfl, ?_⟩)
        (iterate 3 (refine wpX_skip2 rfl rfl (by kernel_rfl) ?_)); simp only [List.setIfInBounds_toArray, List.set_cons_succ, List.set_cons_zero]
        iterate 3 (refine wpX_quiet rfl (by kernel_rfl) rfl ?_; go_wp2; refine ⟨rfl, ?_⟩)
        refine wpX_nil ?_; try simp only [List.drop_succ_cons, List.drop_zero]
        go_wp2
        go_ret
        exact ⟨ret_eq (by first | rfl | simp), B.out⟩
      | true =>
        cases hk0 : (kd == 0) with
        | true =>
          refine wp_region_x 38 [0, 1, 3, 4, 2, 5, 6, 7, 8, 9, 11, 12, 10, 13, 14, 15, 16, 17, 18, 19, 20, 21, 22, 23, 24, 25, 26, 27, 28, 29, 30, 31, 32, 33, 34, 35, 36, 37] (by kernel_rfl) (by kernel_rfl) ?_
          have X := Lib.hid B.out.drew; clear B
          have B := Lib.hid X.out; clear X
          have X := Lib.hid CA.out.drew; clear CA
          have CA := Lib.hid X.out; clear X
          have X := Lib.hid CB.out.drew; clear CB
          have CB := Lib.hid X.out; clear X
          have X := Lib.hid (MA.out.below (Below.refl _ _).drew); clear MA
          have MA := Lib.hid X.out; clear X
          have X := Lib.hid (MB.out.below (Below.refl _ _).drew); clear MB
          have MB := Lib.hid X.out; clear X
          refine wpX_quiet rfl (by kernel_rfl) rfl ?_; go_wp2_with (first | (refine wpList_load_row_g _ (by first | rfl | kernel_rfl) ⟨w7.heap.size, 0, none⟩ rfl csa agg_Cmd LA.out (blk_cells CA.out) ?_) | fail); refine ⟨rfl, ?_⟩
          refine wpX_quiet rfl (by kernel_rfl) rfl ?_; go_wp2_with (first | (refine wpList_load_row_g _ (by first | rfl | kernel_rfl) ⟨w7.heap.size + 1, 0, none⟩ rfl csb agg_Cmd LB.out (blk_cells CB.out) ?_) | fail); refine ⟨rfl, ?_⟩
          refine wpX_quiet rfl (by kernel_rfl) rfl ?_; go_wp2_with (first | (refine wpList_load_row_g _ (by first | rfl | kernel_rfl) ⟨w7.heap.size, 0, none⟩ rfl csa agg_Cmd LA.out (blk_cells CA.out) ?_) | fail); refine ⟨rfl, ?_⟩
          refine wpX_quiet rfl (by kernel_rfl) rfl ?_; go_wp2_with (first | (refine wpList_load_row_g _ (by first | rfl | kernel_rfl) ⟨w7.heap.size + 1, 0, none⟩ rfl csb agg_Cmd LB.out (blk_cells CB.out) ?_) | fail); refine ⟨rfl, ?_⟩
          refine wpX_actor rfl (by kernel_rfl) ?_; go_wp2_with fail
          refine (HAB.out _ MA.out.rep.any MB.out.rep.any).mono ?_
          rintro e y ⟨rfl, hb⟩
          have HX := Lib.hid hb; clear hb
          have X := Lib.hid (MA.out.below HX.out); clear MA
          have MA := Lib.hid X.out; clear X
          have X := Lib.hid (MB.out.below HX.out); clear MB
          have MB := Lib.hid X.out; clear X
          have X := Lib.hid (CA.out.below HX.out); clear CA
          have CA := Lib.hid X.out; clear X
          have X := Lib.hid (CB.out.below HX.out); clear CB
          have CB := Lib.hid X.out; clear X
          have X := Lib.hid (B.out.trans (HX.out.mono B.out.size)); clear B
          have B := Lib.hid X.out; clear X
          go_wp2; refine ⟨Ext.of_below HX.out, ?_⟩
          clear HX
          refine wpX_actor rfl (by kernel_rfl) ?_; go_wp2_with fail
          refine (HSB.out _ MA.out.rep.any MB.out.rep.any).mono ?_
          rintro e y ⟨rfl, hb⟩
          have HX := Lib.hid hb; clear hb
          have X := Lib.hid (MA.out.below HX.out); clear MA
          have MA := Lib.hid X.out; clear X
          have X := Lib.hid (MB.out.below HX.out); clear MB
          have MB := Lib.hid X.out; clear X
          have X := Lib.hid (CA.out.below HX.out); clear CA
          have CA := Lib.hid X.out; clear X
          have X := Lib.hid (CB.out.below HX.out); clear CB
          have CB := Lib.hid X.out; clear X
          have X := Lib.hid (B.out.trans (HX.out.mono B.out.size)); clear B
          have B := Lib.hid X.out; clear X
          go_wp2; refine ⟨Ext.of_below HX.out, ?_⟩
          clear HX
          iterate 2 (refine wpX_quiet rfl (by kernel_rfl) rfl ?_; go_wp2; refine ⟨rfl, ?_⟩)
          refine wpX_quiet rfl (by kernel_rfl) rfl ?_; go_wp2_with (first | (refine wpList_load_row_g _ (by first | rfl | kernel_rfl) ⟨w7.heap.size, 0, none⟩ rfl csa agg_Cmd LA.out (blk_cells CA.out) ?_) | fail); refine ⟨rfl, ?_⟩
          refine wpX_quiet rfl (by kernel_rfl) rfl ?_; go_wp2_with (first | (refine wpList_load_row_g _ (by first | rfl | kernel_rfl) ⟨w7.heap.size + 1, 0, none⟩ rfl csb agg_Cmd LB.out (blk_cells CB.out) ?_) | fail); refine ⟨rfl, ?_⟩
          refine wpX_quiet rfl (by kernel_rfl) rfl ?_; go_wp2_with (first | (refine wpList_load_row_g _ (by first | rfl | kernel_rfl) ⟨w7.heap.size + 1, 0, none⟩ rfl csb agg_Cmd LB.out (blk_cells CB.out) ?_) | fail); refine ⟨rfl, ?_⟩
          refine wpX_quiet rfl (by kernel_rfl) rfl ?_; go_wp2_with (first | (refine wpList_load_row_g _ (by first | rfl | kernel_rfl) ⟨w7.heap.size, 0, none⟩ rfl csa agg_Cmd LA.out (blk_cells CA.out) ?_) | fail); refine ⟨rfl, ?_⟩
          refine wpX_actor rfl (by kernel_rfl) ?_; go_wp2_with fail
          refine (HAB.out _ MA.out.rep.any MB.out.rep.any).mono ?_
          rintro e y ⟨rfl, hb⟩
          have HX := Lib.hid hb; clear hb
          have X := Lib.hid (MA.out.below HX.out); clear MA
          have MA := Lib.hid X.out; clear X
          have X := Lib.hid (MB.out.below HX.out); clear MB
          have MB := Lib.hid X.out; clear X
          have X := Lib.hid (CA.out.below HX.out); clear CA
          have CA := Lib.hid X.out; clear X
          have X := Lib.hid (CB.out.below HX.out); clear CB
          have CB := Lib.hid X.out; clear X
          have X := Lib.hid (B.out.trans (HX.out.mono B.out.size)); clear B
          have B := Lib.hid X.out; clear X
          go_wp2; refine ⟨Ext.of_below HX.out, ?_⟩
          clear HX
          refine wpX_actor rfl (by kernel_rfl) ?_; go_wp2_with fail
          refine (HBA.out _ MB.out.rep.any MA.out.rep.any).mono ?_
          rintro e y ⟨rfl, hb⟩
          have HX := Lib.hid hb; clear hb
          have X := Lib.hid (MA.out.below HX.out); clear MA
          have MA := Lib.hid X.out; clear X
          have X := Lib.hid (MB.out.below HX.out); clear MB
          have MB := Lib.hid X.out; clear X
          have X := Lib.hid (CA.out.below HX.out); clear CA
          have CA := Lib.hid X.out; clear X
          have X := Lib.hid (CB.out.below HX.out); clear CB
          have CB := Lib.hid X.out; clear X
          have X := Lib.hid (B.out.trans (HX.out.mono B.out.size)); clear B
          have B := Lib.hid X.out; clear X
          go_wp2; refine ⟨Ext.of_below HX.out, ?_⟩
          clear HX
          iterate 3 (refine wpX_quiet rfl (by kernel_rfl) rfl ?_; go_wp2; refine ⟨rfl, ?_⟩)
          refine wpX_quiet rfl (by kernel_rfl) rfl ?_; go_wp2_with (first | (refine wpList_load_row_g _ (by first | rfl | kernel_rfl) ⟨w7.heap.size, 0, none⟩ rfl csa agg_Cmd LA.out (blk_cells CA.out) ?_) | fail); refine ⟨rfl, ?_⟩
          iterate 1 (refine wpX_quiet rfl (by kernel_rfl) rfl ?_; go_wp2; refine ⟨rfl, ?_⟩)
          refine wpX_actor rfl (by kernel_rfl) ?_; go_wp2_with fail
          refine (HAZ.out _ MA.out.rep.any).mono ?_
          rintro e y ⟨rfl, hb⟩
          have HX := Lib.hid hb; clear hb
          have X := Lib.hid (MA.out.below HX.out); clear MA
          have MA := Lib.hid X.out; clear X
          have X := Lib.hid (MB.out.below HX.out); clear MB
          have MB := Lib.hid X.out; clear X
          have X := Lib.hid (CA.out.below HX.out); clear CA
          have CA := Lib.hid X.out; clear X
          have X := Lib.hid (CB.out.below HX.out); clear CB
          have CB := Lib.hid X.out; clear X
          have X := Lib.hid (B.out.trans (HX.out.mono B.out.size)); clear B
          have B := Lib.hid X.out; clear X
          go_wp2; refine ⟨Ext.of_below HX.out, ?_⟩
          clear HX
          iterate 3 (refine wpX_quiet rfl (by kernel_rfl) rfl ?_; go_wp2; refine ⟨rfl, ?_⟩)
          refine wpX_quiet rfl (by kernel_rfl) rfl ?_; go_wp2_with (first | (refine wpList_load_row_g _ (by first | rfl | kernel_rfl) ⟨w7.heap.size, 0, none⟩ rfl csa agg_Cmd LA.out (blk_cells CA.out) ?_) | fail); refine ⟨rfl, ?_⟩
          refine wpX_actor rfl (by kernel_rfl) ?_; go_wp2_with fail
          refine (HOK.out _ MA.out.rep.any).mono ?_
          rintro e y ⟨rfl, hb⟩
          have HX := Lib.hid hb; clear hb
          have X := Lib.hid (MA.out.below HX.out); clear MA
          have MA := Lib.hid X.out; clear X
          have X := Lib.hid (MB.out.below HX.out); clear MB
          have MB := Lib.hid X.out; clear X
          have X := Lib.hid (CA.out.below HX.out); clear CA
          have CA := Lib.hid X.out; clear X
          have X := Lib.hid (CB.out.below HX.out); clear CB
          have CB := Lib.hid X.out; clear X
          have X := Lib.hid (B.out.trans (HX.out.mono B.out.size)); clear B
          have B := Lib.hid X.out; clear X
          go_wp2; refine ⟨Ext.of_below HX.out, ?_⟩
          clear HX
          iterate 3 (refine wpX_quiet rfl (by kernel_rfl) rfl ?_; go_wp2; refine ⟨rfl, ?_⟩)
          have ck := blk_cell0 CA.out 0 KA.out
          iterate 1 (refine wpX_quiet rfl (by kernel_rfl) rfl ?_; go_wp2; refine ⟨rfl, ?_⟩)
          clear ck
          iterate 3 (refine wpX_quiet rfl (by kernel_rfl) rfl ?_; go_wp2; refine ⟨rfl, ?_⟩)
          (iterate 3 (refine wpX_skip2 rfl rfl (by kernel_rfl) ?_)); simp only [List.setIfInBounds_toArray, List.set_cons_succ, List.set_cons_zero]
          iterate 3 (refine wpX_quiet rfl (by kernel_rfl) rfl ?_; go_wp2; refine ⟨rfl, ?_⟩)
          refine wpX_nil ?_; try simp only [List.drop_succ_cons, List.drop_zero]
          go_wp2
          go_ret
          exact ⟨ret_eq (by first | rfl | simp), B.out⟩
        | false =>
          obtain rfl := HSELF.out (by first | rfl | trivial) hk0
          refine wp_region_x 38 [0, 1, 3, 4, 2, 5, 6, 7, 8, 9, 11, 12, 10, 13, 14, 15, 16, 17, 18, 19, 20, 21, 22, 23, 24, 25, 26, 27, 28, 29, 30, 31, 32, 33, 34, 35, 36, 37] (by kernel_rfl) (by kernel_rfl) ?_
          have X := Lib.hid B.out.drew; clear B
          have B := Lib.hid X.out; clear X
          have X := Lib.hid CA.out.drew; clear CA
          have CA := Lib.hid X.out; clear X
          have X := Lib.hid CB.out.drew; clear CB
          have CB := Lib.hid X.out; clear X
          have X := Lib.hid (MA.out.below (Below.refl _ _).drew); clear MA
          have MA := Lib.hid X.out; clear X
          have X := Lib.hid (MB.out.below (Below.refl _ _).drew); clear MB
          have MB := Lib.hid X.out; clear X
          refine wpX_quiet rfl (by kernel_rfl) rfl ?_; go_wp2_with (first | (refine wpList_load_row_g _ (by first | rfl | kernel_rfl) ⟨w7.heap.size, 0, none⟩ rfl csa agg_Cmd LA.out (blk_cells CA.out) ?_) | fail); refine ⟨rfl, ?_⟩
          refine wpX_quiet rfl (by kernel_rfl) rfl ?_; go_wp2_with (first | (refine wpList_load_row_g _ (by first | rfl | kernel_rfl) ⟨w7.heap.size + 1, 0, none⟩ rfl csb agg_Cmd LB.out (blk_cells CB.out) ?_) | fail); refine ⟨rfl, ?_⟩
          refine wpX_quiet rfl (by kernel_rfl) rfl ?_; go_wp2_with (first | (refine wpList_load_row_g _ (by first | rfl | kernel_rfl) ⟨w7.heap.size, 0, none⟩ rfl csa agg_Cmd LA.out (blk_cells CA.out) ?_) | fail); refine ⟨rfl, ?_⟩
          refine wpX_quiet rfl (by kernel_rfl) rfl ?_; go_wp2_with (first | (refine wpList_load_row_g _ (by first | rfl | kernel_rfl) ⟨w7.heap.size + 1, 0, none⟩ rfl csb agg_Cmd LB.out (blk_cells CB.out) ?_) | fail); refine ⟨rfl, ?_⟩
          refine wpX_actor rfl (by kernel_rfl) ?_; go_wp2_with fail
          refine (HAB.out _ MA.out.rep.any MB.out.rep.any).mono ?_
          rintro e y ⟨rfl, hb⟩
          have HX := Lib.hid hb; clear hb
          have X := Lib.hid (MA.out.below HX.out); clear MA
          have MA := Lib.hid X.out; clear X
          have X := Lib.hid (MB.out.below HX.out); clear MB
          have MB := Lib.hid X.out; clear X
          have X := Lib.hid (CA.out.below HX.out); clear CA
          have CA := Lib.hid X.out; clear X
          have X := Lib.hid (CB.out.below HX.out); clear CB
          have CB := Lib.hid X.out; clear X
          have X := Lib.hid (B.out.trans (HX.out.mono B.out.size)); clear B
          have B := Lib.hid X.out; clear X
          go_wp2; refine ⟨Ext.of_below HX.out, ?_⟩
          clear HX
          refine wpX_actor rfl (by kernel_rfl) ?_; go_wp2_with fail
          refine (HSB.out _ MA.out.rep.any MB.out.rep.any).mono ?_
          rintro e y ⟨rfl, hb⟩
          have HX := Lib.hid hb; clear hb
          have X := Lib.hid (MA.out.below HX.out); clear MA
          have MA := Lib.hid X.out; clear X
          have X := Lib.hid (MB.out.below HX.out); clear MB
          have MB := Lib.hid X.out; clear X
          have X := Lib.hid (CA.out.below HX.out); clear CA
          have CA := Lib.hid X.out; clear X
          have X := Lib.hid (CB.out.below HX.out); clear CB
          have CB := Lib.hid X.out; clear X
          have X := Lib.hid (B.out.trans (HX.out.mono B.out.size)); clear B
          have B := Lib.hid X.out; clear X
          go_wp2; refine ⟨Ext.of_below HX.out, ?_⟩
          clear HX
          iterate 2 (refine wpX_quiet rfl (by kernel_rfl) rfl ?_; go_wp2; refine ⟨rfl, ?_⟩)
          refine wpX_quiet rfl (by kernel_rfl) rfl ?_; go_wp2_with (first | (refine wpList_load_row_g _ (by first | rfl | kernel_rfl) ⟨w7.heap.size, 0, none⟩ rfl csa agg_Cmd LA.out (blk_cells CA.out) ?_) | fail); refine ⟨rfl, ?_⟩
          refine wpX_quiet rfl (by kernel_rfl) rfl ?_; go_wp2_with (first | (refine wpList_load_row_g _ (by first | rfl | kernel_rfl) ⟨w7.heap.size + 1, 0, none⟩ rfl csb agg_Cmd LB.out (blk_cells CB.out) ?_) | fail); refine ⟨rfl, ?_⟩
          refine wpX_quiet rfl (by kernel_rfl) rfl ?_; go_wp2_with (first | (refine wpList_load_row_g _ (by first | rfl | kernel_rfl) ⟨w7.heap.size + 1, 0, none⟩ rfl csb agg_Cmd LB.out (blk_cells CB.out) ?_) | fail); refine ⟨rfl, ?_⟩
          refine wpX_quiet rfl (by kernel_rfl) rfl ?_; go_wp2_with (first | (refine wpList_load_row_g _ (by first | rfl | kernel_rfl) ⟨w7.heap.size, 0, none⟩ rfl csa agg_Cmd LA.out (blk_cells CA.out) ?_) | fail); refine ⟨rfl, ?_⟩
          refine wpX_actor rfl (by kernel_rfl) ?_; go_wp2_with fail
          refine (HAB.out _ MA.out.rep.any MB.out.rep.any).mono ?_
          rintro e y ⟨rfl, hb⟩
          have HX := Lib.hid hb; clear hb
          have X := Lib.hid (MA.out.below HX.out); clear MA
          have MA := Lib.hid X.out; clear X
          have X := Lib.hid (MB.out.below HX.out); clear MB
          have MB := Lib.hid X.out; clear X
          have X := Lib.hid (CA.out.below HX.out); clear CA
          have CA := Lib.hid X.out; clear X
          have X := Lib.hid (CB.out.below HX.out); clear CB
          have CB := Lib.hid X.out; clear X
          have X := Lib.hid (B.out.trans (HX.out.mono B.out.size)); clear B
          have B := Lib.hid X.out; clear X
          go_wp2; refine ⟨Ext.of_below HX.out, ?_⟩
          clear HX
          refine wpX_actor rfl (by kernel_rfl) ?_; go_wp2_with fail
          refine (HBA.out _ MB.out.rep.any MA.out.rep.any).mono ?_
          rintro e y ⟨rfl, hb⟩
          have HX := Lib.hid hb; clear hb
          have X := Lib.hid (MA.out.below HX.out); clear MA
          have MA := Lib.hid X.out; clear X
          have X := Lib.hid (MB.out.below HX.out); clear MB
          have MB := Lib.hid X.out; clear X
          have X := Lib.hid (CA.out.below HX.out); clear CA
          have CA := Lib.hid X.out; clear X
          have X := Lib.hid (CB.out.below HX.out); clear CB
          have CB := Lib.hid X.out; clear X
          have X := Lib.hid (B.out.trans (HX.out.mono B.out.size)); clear B
          have B := Lib.hid X.out; clear X
          go_wp2; refine ⟨Ext.of_below HX.out, ?_⟩
          clear HX
          iterate 3 (refine wpX_quiet rfl (by kernel_rfl) rfl ?_; go_wp2; refine ⟨rfl, ?_⟩)
          refine wpX_quiet rfl (by kernel_rfl) rfl ?_; go_wp2_with (first | (refine wpList_load_row_g _ (by first | rfl | kernel_rfl) ⟨w7.heap.size, 0, none⟩ rfl csa agg_Cmd LA.out (blk_cells CA.out) ?_) | fail); refine ⟨rfl, ?_⟩
          iterate 1 (refine wpX_quiet rfl (by kernel_rfl) rfl ?_; go_wp2; refine ⟨rfl, ?_⟩)
          refine wpX_actor rfl (by kernel_rfl) ?_; go_wp2_with fail
          refine (HAZ.out _ MA.out.rep.any).mono ?_
          rintro e y ⟨rfl, hb⟩
          have HX := Lib.hid hb; clear hb
          have X := Lib.hid (MA.out.below HX.out); clear MA
          have MA := Lib.hid X.out; clear X
          have X := Lib.hid (MB.out.below HX.out); clear MB
          have MB := Lib.hid X.out; clear X
          have X := Lib.hid (CA.out.below HX.out); clear CA
          have CA := Lib.hid X.out; clear X
          have X := Lib.hid (CB.out.below HX.out); clear CB
          have CB := Lib.hid X.out; clear X
          have X := Lib.hid (B.out.trans (HX.out.mono B.out.size)); clear B
          have B := Lib.hid X.out; clear X
          go_wp2; refine ⟨Ext.of_below HX.out, ?_⟩
          clear HX
          iterate 3 (refine wpX_quiet rfl (by kernel_rfl) rfl ?_; go_wp2; refine ⟨rfl, ?_⟩)
          refine wpX_quiet rfl (by kernel_rfl) rfl ?_; go_wp2_with (first | (refine wpList_load_row_g _ (by first | rfl | kernel_rfl) ⟨w7.heap.size, 0, none⟩ rfl csa agg_Cmd LA.out (blk_cells CA.out) ?_) | fail); refine ⟨rfl, ?_⟩
          refine wpX_actor rfl (by kernel_rfl) ?_; go_wp2_with fail
          refine (HOK.out _ MA.out.rep.any).mono ?_
          rintro e y ⟨rfl, hb⟩
          have HX := Lib.hid hb; clear hb
          have X := Lib.hid (MA.out.below HX.out); clear MA
          have MA := Lib.hid X.out; clear X
          have X := Lib.hid (MB.out.below HX.out); clear MB
          have MB := Lib.hid X.out; clear X
          have X := Lib.hid (CA.out.below HX.out); clear CA
          have CA := Lib.hid X.out; clear X
          have X := Lib.hid (CB.out.below HX.out); clear CB
          have CB := Lib.hid X.out; clear X
          have X := Lib.hid (B.out.trans (HX.out.mono B.out.size)); clear B
          have B := Lib.hid X.out; clear X
          go_wp2; refine ⟨Ext.of_below HX.out, ?_⟩
          clear HX
          iterate 3 (refine wpX_quiet rfl (by kernel_rfl) rfl ?_; go_wp2; refine ⟨rfl, ?_⟩)
          have ck := blk_cell0 CA.out 0 KA.out
          iterate 1 (refine wpX_quiet rfl (by kernel_rfl) rfl ?_; go_wp2; refine ⟨rfl, ?_⟩)
          clear ck
          iterate 3 (refine wpX_quiet rfl (by kernel_rfl) rfl ?_; go_wp2; refine ⟨rfl, ?_⟩)
          refine wpX_quiet rfl (by kernel_rfl) rfl ?_; go_wp2_with (first | (refine wpList_load_row_g _ (by first | rfl | kernel_rfl) ⟨w7.heap.size, 0, none⟩ rfl csa agg_Cmd LA.out (blk_cells CA.out) ?_) | fail); refine ⟨rfl, ?_⟩
          refine wpX_quiet rfl (by kernel_rfl) rfl ?_; go_wp2_with (first | (refine wpList_load_row_g _ (by first | rfl | kernel_rfl) ⟨w7.heap.size, 0, none⟩ rfl csa agg_Cmd LA.out (blk_cells CA.out) ?_) | fail); refine ⟨rfl, ?_⟩
          refine wpX_actor rfl (by kernel_rfl) ?_; go_wp2_with fail
          refine (HAA.out _ MA.out.rep.any).mono ?_
          rintro e y ⟨rfl, hb⟩
          have HX := Lib.hid hb; clear hb
          have X := Lib.hid (MA.out.below HX.out); clear MA
          have MA := Lib.hid X.out; clear X
          have X := Lib.hid (MB.out.below HX.out); clear MB
          have MB := Lib.hid X.out; clear X
          have X := Lib.hid (CA.out.below HX.out); clear CA
          have CA := Lib.hid X.out; clear X
          have X := Lib.hid (CB.out.below HX.out); clear CB
          have CB := Lib.hid X.out; clear X
          have X := Lib.hid (B.out.trans (HX.out.mono B.out.size)); clear B
          have B := Lib.hid X.out; clear X
          go_wp2; refine ⟨Ext.of_below HX.out, ?_⟩
          clear HX
          iterate 3 (refine wpX_quiet rfl (by kernel_rfl) rfl ?_; go_wp2; refine ⟨rfl, ?_⟩)
          refine wpX_nil ?_; try simp only [List.drop_succ_cons, List.drop_zero]
          go_wp2
          go_ret
          exact ⟨ret_eq (by first | rfl | simp), B.out⟩
  | false =>
    cases fx with
    | true =>
      go_wp2_with (first | ((with_reducible show wpList _ _ _ ({ dst := _, op := Op.load 38 _, type := _, pos := _, after := _, guard := _ } :: _) _ _); first | refine wpList_load_row_g _ (by rfl) ⟨w1.heap.size, 0, none⟩ rfl cs agg_Cmd L1.out (blk_cells C1.out) ?_ | refine wpList_load_row_g _ (by rfl) ⟨w3.heap.size, 0, none⟩ rfl cs2 agg_Cmd L2.out (blk_cells C2.out) ?_ | refine wpList_load_row_g _ (by rfl) ⟨w5.heap.size, 0, none⟩ rfl cs3 agg_Cmd L3.out (blk_cells C3.out) ?_) | fail)
      refine (iShowCmd_any ry cs3 _ hyw.out M3.out.rep.any).mono ?_
      rintro e w11 ⟨rfl, hb⟩
      rw [HBACK.out (by first | rfl | trivial)]
      have HX := Lib.hid hb; clear hb
      have X := Lib.hid (M1.out.below HX.out); clear M1
      have M1 := Lib.hid X.out; clear X
      have X := Lib.hid (C1.out.below HX.out); clear C1
      have C1 := Lib.hid X.out; clear X
      have X := Lib.hid (M2.out.below HX.out); clear M2
      have M2 := Lib.hid X.out; clear X
      have X := Lib.hid (C2.out.below HX.out); clear C2
      have C2 := Lib.hid X.out; clear X
      have X := Lib.hid (M3.out.below HX.out); clear M3
      have M3 := Lib.hid X.out; clear X
      have X := Lib.hid (C3.out.below HX.out); clear C3
      have C3 := Lib.hid X.out; clear X
      have X := Lib.hid (MA.out.below HX.out); clear MA
      have MA := Lib.hid X.out; clear X
      have X := Lib.hid (MB.out.below HX.out); clear MB
      have MB := Lib.hid X.out; clear X
      have X := Lib.hid (CA.out.below HX.out); clear CA
      have CA := Lib.hid X.out; clear X
      have X := Lib.hid (CB.out.below HX.out); clear CB
      have CB := Lib.hid X.out; clear X
      have X := Lib.hid (B.out.trans (HX.out.mono B.out.size)); clear B
      have B := Lib.hid X.out; clear X
      clear HX
      go_wp2_with fail
      clear M1 M2 M3 C1 C2 C3
      cases oka with
      | false =>
        refine wp_region_x 38 [0, 1, 3, 4, 2, 5, 6, 7, 8, 9, 11, 12, 10, 13, 14, 15, 16, 17, 18, 19, 20, 21, 22, 23, 24, 25, 26, 27, 28, 29, 30, 31, 32, 33, 34, 35, 36, 37] (by kernel_rfl) (by kernel_rfl) ?_
        have X := Lib.hid B.out.drew; clear B
        have B := Lib.hid X.out; clear X
        have X := Lib.hid CA.out.drew; clear CA
        have CA := Lib.hid X.out; clear X
        have X := Lib.hid CB.out.drew; clear CB
        have CB := Lib.hid X.out; clear X
        have X := Lib.hid (MA.out.below (Below.refl _ _).drew); clear MA
        have MA := Lib.hid X.out; clear X
        have X := Lib.hid (MB.out.below (Below.refl _ _).drew); clear MB
        have MB := Lib.hid X.out; clear X
        refine wpX_quiet rfl (by kernel_rfl) rfl ?_; go_wp2_with (first | (refine wpList_load_row_g _ (by first | rfl | kernel_rfl) ⟨w7.heap.size, 0, none⟩ rfl csa agg_Cmd LA.out (blk_cells CA.out) ?_) | fail); refine ⟨rfl, ?_⟩
        refine wpX_quiet rfl (by kernel_rfl) rfl ?_; go_wp2_with (first | (refine wpList_load_row_g _ (by first | rfl | kernel_rfl) ⟨w7.heap.size + 1, 0, none⟩ rfl csb agg_Cmd LB.out (blk_cells CB.out) ?_) | fail); refine ⟨rfl, ?_⟩
        refine wpX_quiet rfl (by kernel_rfl) rfl ?_; go_wp2_with (first | (refine wpList_load_row_g _ (by first | rfl | kernel_rfl) ⟨w7.heap.size, 0, none⟩ rfl csa agg_Cmd LA.out (blk_cells CA.out) ?_) | fail); refine ⟨rfl, ?_⟩
        refine wpX_quiet rfl (by kernel_rfl) rfl ?_; go_wp2_with (first | (refine wpList_load_row_g _ (by first | rfl | kernel_rfl) ⟨w7.heap.size + 1, 0, none⟩ rfl csb agg_Cmd LB.out (blk_cells CB.out) ?_) | fail); refine ⟨rfl, ?_⟩
        refine wpX_actor rfl (by kernel_rfl) ?_; go_wp2_with fail
        refine (HAB.out _ MA.out.rep.any MB.out.rep.any).mono ?_
        rintro e y ⟨rfl, hb⟩
        have HX := Lib.hid hb; clear hb
        have X := Lib.hid (MA.out.below HX.out); clear MA
        have MA := Lib.hid X.out; clear X
        have X := Lib.hid (MB.out.below HX.out); clear MB
        have MB := Lib.hid X.out; clear X
        have X := Lib.hid (CA.out.below HX.out); clear CA
        have CA := Lib.hid X.out; clear X
        have X := Lib.hid (CB.out.below HX.out); clear CB
        have CB := Lib.hid X.out; clear X
        have X := Lib.hid (B.out.trans (HX.out.mono B.out.size)); clear B
        have B := Lib.hid X.out; clear X
        go_wp2; refine ⟨Ext.of_below HX.out, ?_⟩
        clear HX
        refine wpX_actor rfl (by kernel_rfl) ?_; go_wp2_with fail
        refine (HSB.out _ MA.out.rep.any MB.out.rep.any).mono ?_
        rintro e y ⟨rfl, hb⟩
        have HX := Lib.hid hb; clear hb
        have X := Lib.hid (MA.out.below HX.out); clear MA
        have MA := Lib.hid X.out; clear X
        have X := Lib.hid (MB.out.below HX.out); clear MB
        have MB := Lib.hid X.out; clear X
        have X := Lib.hid (CA.out.below HX.out); clear CA
        have CA := Lib.hid X.out; clear X
        have X := Lib.hid (CB.out.below HX.out); clear CB
        have CB := Lib.hid X.out; clear X
        have X := Lib.hid (B.out.trans (HX.out.mono B.out.size)); clear B
        have B := Lib.hid X.out; clear X
        go_wp2; refine ⟨Ext.of_below HX.out, ?_⟩
        clear HX
        iterate 2 (refine wpX_quiet rfl (by kernel_rfl) rfl ?_; go_wp2; refine ⟨rfl, ?_⟩)
        refine wpX_quiet rfl (by kernel_rfl) rfl ?_; go_wp2_with (first | (refine wpList_load_row_g _ (by first | rfl | kernel_rfl) ⟨w7.heap.size, 0, none⟩ rfl csa agg_Cmd LA.out (blk_cells CA.out) ?_) | fail); refine ⟨rfl, ?_⟩
        refine wpX_quiet rfl (by kernel_rfl) rfl ?_; go_wp2_with (first | (refine wpList_load_row_g _ (by first | rfl | kernel_rfl) ⟨w7.heap.size + 1, 0, none⟩ rfl csb agg_Cmd LB.out (blk_cells CB.out) ?_) | fail); refine ⟨rfl, ?_⟩
        refine wpX_quiet rfl (by kernel_rfl) rfl ?_; go_wp2_with (first | (refine wpList_load_row_g _ (by first | rfl | kernel_rfl) ⟨w7.heap.size + 1, 0, none⟩ rfl csb agg_Cmd LB.out (blk_cells CB.out) ?_) | fail); refine ⟨rfl, ?_⟩
        refine wpX_quiet rfl (by kernel_rfl) rfl ?_; go_wp2_with (first | (refine wpList_load_row_g _ (by first | rfl | kernel_rfl) ⟨w7.heap.size, 0, none⟩ rfl csa agg_Cmd LA.out (blk_cells CA.out) ?_) | fail); refine ⟨rfl, ?_⟩
        refine wpX_actor rfl (by kernel_rfl) ?_; go_wp2_with fail
        refine (HAB.out _ MA.out.rep.any MB.out.rep.any).mono ?_
        rintro e y ⟨rfl, hb⟩
        have HX := Lib.hid hb; clear hb
        have X := Lib.hid (MA.out.below HX.out); clear MA
        have MA := Lib.hid X.out; clear X
        have X := Lib.hid (MB.out.below HX.out); clear MB
        have MB := Lib.hid X.out; clear X
        have X := Lib.hid (CA.out.below HX.out); clear CA
        have CA := Lib.hid X.out; clear X
        have X := Lib.hid (CB.out.below HX.out); clear CB
        have CB := Lib.hid X.out; clear X
        have X := Lib.hid (B.out.trans (HX.out.mono B.out.size)); clear B
        have B := Lib.hid X.out; clear X
        go_wp2; refine ⟨Ext.of_below HX.out, ?_⟩
        clear HX
        refine wpX_actor rfl (by kernel_rfl) ?_; go_wp2_with fail
        refine (HBA.out _ MB.out.rep.any MA.out.rep.any).mono ?_
        rintro e y ⟨rfl, hb⟩
        have HX := Lib.hid hb; clear hb
        have X := Lib.hid (MA.out.below HX.out); clear MA
        have MA := Lib.hid X.out; clear X
        have X := Lib.hid (MB.out.below HX.out); clear MB
        have MB := Lib.hid X.out; clear X
        have X := Lib.hid (CA.out.below HX.out); clear CA
        have CA := Lib.hid X.out; clear X
        have X := Lib.hid (CB.out.below HX.out); clear CB
        have CB := Lib.hid X.out; clear X
        have X := Lib.hid (B.out.trans (HX.out.mono B.out.size)); clear B
        have B := Lib.hid X.out; clear X
        go_wp2; refine ⟨Ext.of_below HX.out, ?_⟩
        clear HX
        iterate 3 (refine wpX_quiet rfl (by kernel_rfl) rfl ?_; go_wp2; refine ⟨rfl, ?_⟩)
        refine wpX_quiet rfl (by kernel_rfl) rfl ?_; go_wp2_with (first | (refine wpList_load_row_g _ (by first | rfl | kernel_rfl) ⟨w7.heap.size, 0, none⟩ rfl csa agg_Cmd LA.out (blk_cells CA.out) ?_) | fail); refine ⟨rfl, ?_⟩
        iterate 1 (refine wpX_quiet rfl (by kernel_rfl) rfl ?_; go_wp2; refine ⟨rfl, ?_⟩)
        refine wpX_actor rfl (by kernel_rfl) ?_; go_wp2_with fail
        refine (HAZ.out _ MA.out.rep.any).mono ?_
        rintro e y ⟨rfl, hb⟩
        have HX := Lib.hid hb; clear hb
        have X := Lib.hid (MA.out.below HX.out); clear MA
        have MA := Lib.hid X.out; clear X
        have X := Lib.hid (MB.out.below HX.out); clear MB
        have MB := Lib.hid X.out; clear X
        have X := Lib.hid (CA.out.below HX.out); clear CA
        have CA := Lib.hid X.out; clear X
        have X := Lib.hid (CB.out.below HX.out); clear CB
        have CB := Lib.hid X.out; clear X
        have X := Lib.hid (B.out.trans (HX.out.mono B.out.size)); clear B
        have B := Lib.hid X.out; clear X
        go_wp2; refine ⟨Ext.of_below HX.out, ?_⟩
        clear HX
        iterate 3 (refine wpX_quiet rfl (by kernel_rfl) rfl ?_; go_wp2; refine ⟨rfl, ?_⟩)
        refine wpX_quiet rfl (by kernel_rfl) rfl ?_; go_wp2_with (first | (refine wpList_load_row_g _ (by first | rfl | kernel_rfl) ⟨w7.heap.size, 0, none⟩ rfl csa agg_Cmd LA.out (blk_cells CA.out) ?_) | fail); refine ⟨rfl, ?_⟩
        refine wpX_actor rfl (by kernel_rfl) ?_; go_wp2_with fail
        refine (HOK.out _ MA.out.rep.any).mono ?_
        rintro e y ⟨rfl, hb⟩
        have HX := Lib.hid hb; clear hb
        have X := Lib.hid (MA.out.below HX.out); clear MA
        have MA := Lib.hid X.out; clear X
        have X := Lib.hid (MB.out.below HX.out); clear MB
        have MB := Lib.hid X.out; clear X
        have X := Lib.hid (CA.out.below HX.out); clear CA
        have CA := Lib.hid X.out; clear X
        have X := Lib.hid (CB.out.below HX.out); clear CB
        have CB := Lib.hid X.out; clear X
        have X := Lib.hid (B.out.trans (HX.out.mono B.out.size)); clear B
        have B := Lib.hid X.out; clear X
        go_wp2; refine ⟨Ext.of_below HX.out, ?_⟩
        clear HX
        iterate 2 (refine wpX_quiet rfl (by kernel_rfl) rfl ?_; go_wp2; refine ⟨rfl, ?_⟩)
        (iterate 3 (refine wpX_skip2 rfl rfl (by kernel_rfl) ?_)); simp only [List.setIfInBounds_toArray, List.set_cons_succ, List.set_cons_zero]
        iterate 2 (refine wpX_quiet rfl (by kernel_rfl) rfl ?_; go_wp2; refine ⟨rfl, ?_⟩)
        (iterate 3 (refine wpX_skip2 rfl rfl (by kernel_rfl) ?_)); simp only [List.setIfInBounds_toArray, List.set_cons_succ, List.set_cons_zero]
        iterate 3 (refine wpX_quiet rfl (by kernel_rfl) rfl ?_; go_wp2; refine ⟨rfl, ?_⟩)
        refine wpX_nil ?_; try simp only [List.drop_succ_cons, List.drop_zero]
        go_wp2
        go_ret
        exact ⟨ret_eq (by first | rfl | simp), B.out⟩
      | true =>
        cases hk0 : (kd == 0) with
        | true =>
          refine wp_region_x 38 [0, 1, 3, 4, 2, 5, 6, 7, 8, 9, 11, 12, 10, 13, 14, 15, 16, 17, 18, 19, 20, 21, 22, 23, 24, 25, 26, 27, 28, 29, 30, 31, 32, 33, 34, 35, 36, 37] (by kernel_rfl) (by kernel_rfl) ?_
          have X := Lib.hid B.out.drew; clear B
          have B := Lib.hid X.out; clear X
          have X := Lib.hid CA.out.drew; clear CA
          have CA := Lib.hid X.out; clear X
          have X := Lib.hid CB.out.drew; clear CB
          have CB := Lib.hid X.out; clear X
          have X := Lib.hid (MA.out.below (Below.refl _ _).drew); clear MA
          have MA := Lib.hid X.out; clear X
          have X := Lib.hid (MB.out.below (Below.refl _ _).drew); clear MB
          have MB := Lib.hid X.out; clear X
          refine wpX_quiet rfl (by kernel_rfl) rfl ?_; go_wp2_with (first | (refine wpList_load_row_g _ (by first | rfl | kernel_rfl) ⟨w7.heap.size, 0, none⟩ rfl csa agg_Cmd LA.out (blk_cells CA.out) ?_) | fail); refine ⟨rfl, ?_⟩
          refine wpX_quiet rfl (by kernel_rfl) rfl ?_; go_wp2_with (first | (refine wpList_load_row_g _ (by first | rfl | kernel_rfl) ⟨w7.heap.size + 1, 0, none⟩ rfl csb agg_Cmd LB.out (blk_cells CB.out) ?_) | fail); refine ⟨rfl, ?_⟩
          refine wpX_quiet rfl (by kernel_rfl) rfl ?_; go_wp2_with (first | (refine wpList_load_row_g _ (by first | rfl | kernel_rfl) ⟨w7.heap.size, 0, none⟩ rfl csa agg_Cmd LA.out (blk_cells CA.out) ?_) | fail); refine ⟨rfl, ?_⟩
          refine wpX_quiet rfl (by kernel_rfl) rfl ?_; go_wp2_with (first | (refine wpList_load_row_g _ (by first | rfl | kernel_rfl) ⟨w7.heap.size + 1, 0, none⟩ rfl csb agg_Cmd LB.out (blk_cells CB.out) ?_) | fail); refine ⟨rfl, ?_⟩
          refine wpX_actor rfl (by kernel_rfl) ?_; go_wp2_with fail
          refine (HAB.out _ MA.out.rep.any MB.out.rep.any).mono ?_
          rintro e y ⟨rfl, hb⟩
          have HX := Lib.hid hb; clear hb
          have X := Lib.hid (MA.out.below HX.out); clear MA
          have MA := Lib.hid X.out; clear X
          have X := Lib.hid (MB.out.below HX.out); clear MB
          have MB := Lib.hid X.out; clear X
          have X := Lib.hid (CA.out.below HX.out); clear CA
          have CA := Lib.hid X.out; clear X
          have X := Lib.hid (CB.out.below HX.out); clear CB
          have CB := Lib.hid X.out; clear X
          have X := Lib.hid (B.out.trans (HX.out.mono B.out.size)); clear B
          have B := Lib.hid X.out; clear X
          go_wp2; refine ⟨Ext.of_below HX.out, ?_⟩
          clear HX
          refine wpX_actor rfl (by kernel_rfl) ?_; go_wp2_with fail
          refine (HSB.out _ MA.out.rep.any MB.out.rep.any).mono ?_
          rintro e y ⟨rfl, hb⟩
          have HX := Lib.hid hb; clear hb
          have X := Lib.hid (MA.out.below HX.out); clear MA
          have MA := Lib.hid X.out; clear X
          have X := Lib.hid (MB.out.below HX.out); clear MB
          have MB := Lib.hid X.out; clear X
          have X := Lib.hid (CA.out.below HX.out); clear CA
          have CA := Lib.hid X.out; clear X
          have X := Lib.hid (CB.out.below HX.out); clear CB
          have CB := Lib.hid X.out; clear X
          have X := Lib.hid (B.out.trans (HX.out.mono B.out.size)); clear B
          have B := Lib.hid X.out; clear X
          go_wp2; refine ⟨Ext.of_below HX.out, ?_⟩
          clear HX
          iterate 2 (refine wpX_quiet rfl (by kernel_rfl) rfl ?_; go_wp2; refine ⟨rfl, ?_⟩)
          refine wpX_quiet rfl (by kernel_rfl) rfl ?_; go_wp2_with (first | (refine wpList_load_row_g _ (by first | rfl | kernel_rfl) ⟨w7.heap.size, 0, none⟩ rfl csa agg_Cmd LA.out (blk_cells CA.out) ?_) | fail); refine ⟨rfl, ?_⟩
          refine wpX_quiet rfl (by kernel_rfl) rfl ?_; go_wp2_with (first | (refine wpList_load_row_g _ (by first | rfl | kernel_rfl) ⟨w7.heap.size + 1, 0, none⟩ rfl csb agg_Cmd LB.out (blk_cells CB.out) ?_) | fail); refine ⟨rfl, ?_⟩
          refine wpX_quiet rfl (by kernel_rfl) rfl ?_; go_wp2_with (first | (refine wpList_load_row_g _ (by first | rfl | kernel_rfl) ⟨w7.heap.size + 1, 0, none⟩ rfl csb agg_Cmd LB.out (blk_cells CB.out) ?_) | fail); refine ⟨rfl, ?_⟩
          refine wpX_quiet rfl (by kernel_rfl) rfl ?_; go_wp2_with (first | (refine wpList_load_row_g _ (by first | rfl | kernel_rfl) ⟨w7.heap.size, 0, none⟩ rfl csa agg_Cmd LA.out (blk_cells CA.out) ?_) | fail); refine ⟨rfl, ?_⟩
          refine wpX_actor rfl (by kernel_rfl) ?_; go_wp2_with fail
          refine (HAB.out _ MA.out.rep.any MB.out.rep.any).mono ?_
          rintro e y ⟨rfl, hb⟩
          have HX := Lib.hid hb; clear hb
          have X := Lib.hid (MA.out.below HX.out); clear MA
          have MA := Lib.hid X.out; clear X
          have X := Lib.hid (MB.out.below HX.out); clear MB
          have MB := Lib.hid X.out; clear X
          have X := Lib.hid (CA.out.below HX.out); clear CA
          have CA := Lib.hid X.out; clear X
          have X := Lib.hid (CB.out.below HX.out); clear CB
          have CB := Lib.hid X.out; clear X
          have X := Lib.hid (B.out.trans (HX.out.mono B.out.size)); clear B
          have B := Lib.hid X.out; clear X
          go_wp2; refine ⟨Ext.of_below HX.out, ?_⟩
          clear HX
          refine wpX_actor rfl (by kernel_rfl) ?_; go_wp2_with fail
          refine (HBA.out _ MB.out.rep.any MA.out.rep.any).mono ?_
          rintro e y ⟨rfl, hb⟩
          have HX := Lib.hid hb; clear hb
          have X := Lib.hid (MA.out.below HX.out); clear MA
          have MA := Lib.hid X.out; clear X
          have X := Lib.hid (MB.out.below HX.out); clear MB
          have MB := Lib.hid X.out; clear X
          have X := Lib.hid (CA.out.below HX.out); clear CA
          have CA := Lib.hid X.out; clear X
          have X := Lib.hid (CB.out.below HX.out); clear CB
          have CB := Lib.hid X.out; clear X
          have X := Lib.hid (B.out.trans (HX.out.mono B.out.size)); clear B
          have B := Lib.hid X.out; clear X
          go_wp2; refine ⟨Ext.of_below HX.out, ?_⟩
          clear HX
          iterate 3 (refine wpX_quiet rfl (by kernel_rfl) rfl ?_; go_wp2; refine ⟨rfl, ?_⟩)
          refine wpX_quiet rfl (by kernel_rfl) rfl ?_; go_wp2_with (first | (refine wpList_load_row_g _ (by first | rfl | kernel_rfl) ⟨w7.heap.size, 0, none⟩ rfl csa agg_Cmd LA.out (blk_cells CA.out) ?_) | fail); refine ⟨rfl, ?_⟩
          iterate 1 (refine wpX_quiet rfl (by kernel_rfl) rfl ?_; go_wp2; refine ⟨rfl, ?_⟩)
          refine wpX_actor rfl (by kernel_rfl) ?_; go_wp2_with fail
          refine (HAZ.out _ MA.out.rep.any).mono ?_
          rintro e y ⟨rfl, hb⟩
          have HX := Lib.hid hb; clear hb
          have X := Lib.hid (MA.out.below HX.out); clear MA
          have MA := Lib.hid X.out; clear X
          have X := Lib.hid (MB.out.below HX.out); clear MB
          have MB := Lib.hid X.out; clear X
          have X := Lib.hid (CA.out.below HX.out); clear CA
          have CA := Lib.hid X.out; clear X
          have X := Lib.hid (CB.out.below HX.out); clear CB
          have CB := Lib.hid X.out; clear X
          have X := Lib.hid (B.out.trans (HX.out.mono B.out.size)); clear B
          have B := Lib.hid X.out; clear X
          go_wp2; refine ⟨Ext.of_below HX.out, ?_⟩
          clear HX
          iterate 3 (refine wpX_quiet rfl (by kernel_rfl) rfl ?_; go_wp2; refine ⟨rfl, ?_⟩)
          refine wpX_quiet rfl (by kernel_rfl) rfl ?_; go_wp2_with (first | (refine wpList_load_row_g _ (by first | rfl | kernel_rfl) ⟨w7.heap.size, 0, none⟩ rfl csa agg_Cmd LA.out (blk_cells CA.out) ?_) | fail); refine ⟨rfl, ?_⟩
          refine wpX_actor rfl (by kernel_rfl) ?_; go_wp2_with fail
          refine (HOK.out _ MA.out.rep.any).mono ?_
          rintro e y ⟨rfl, hb⟩
          have HX := Lib.hid hb; clear hb
          have X := Lib.hid (MA.out.below HX.out); clear MA
          have MA := Lib.hid X.out; clear X
          have X := Lib.hid (MB.out.below HX.out); clear MB
          have MB := Lib.hid X.out; clear X
          have X := Lib.hid (CA.out.below HX.out); clear CA
          have CA := Lib.hid X.out; clear X
          have X := Lib.hid (CB.out.below HX.out); clear CB
          have CB := Lib.hid X.out; clear X
          have X := Lib.hid (B.out.trans (HX.out.mono B.out.size)); clear B
          have B := Lib.hid X.out; clear X
          go_wp2; refine ⟨Ext.of_below HX.out, ?_⟩
          clear HX
          iterate 3 (refine wpX_quiet rfl (by kernel_rfl) rfl ?_; go_wp2; refine ⟨rfl, ?_⟩)
          have ck := blk_cell0 CA.out 0 KA.out
          iterate 1 (refine wpX_quiet rfl (by kernel_rfl) rfl ?_; go_wp2; refine ⟨rfl, ?_⟩)
          clear ck
          iterate 3 (refine wpX_quiet rfl (by kernel_rfl) rfl ?_; go_wp2; refine ⟨rfl, ?_⟩)
          (iterate 3 (refine wpX_skip2 rfl rfl (by kernel_rfl) ?_)); simp only [List.setIfInBounds_toArray, List.set_cons_succ, List.set_cons_zero]
          iterate 3 (refine wpX_quiet rfl (by kernel_rfl) rfl ?_; go_wp2; refine ⟨rfl, ?_⟩)
          refine wpX_nil ?_; try simp only [List.drop_succ_cons, List.drop_zero]
          go_wp2
          go_ret
          exact ⟨ret_eq (by first | rfl | simp), B.out⟩
        | false =>
          obtain rfl := HSELF.out (by first | rfl | trivial) hk0
          refine wp_region_x 38 [0, 1, 3, 4, 2, 5, 6, 7, 8, 9, 11, 12, 10, 13, 14, 15, 16, 17, 18, 19, 20, 21, 22, 23, 24, 25, 26, 27, 28, 29, 30, 31, 32, 33, 34, 35, 36, 37] (by kernel_rfl) (by kernel_rfl) ?_
          have X := Lib.hid B.out.drew; clear B
          have B := Lib.hid X.out; clear X
          have X := Lib.hid CA.out.drew; clear CA
          have CA := Lib.hid X.out; clear X
          have X := Lib.hid CB.out.drew; clear CB
          have CB := Lib.hid X.out; clear X
          have X := Lib.hid (MA.out.below (Below.refl _ _).drew); clear MA
          have MA := Lib.hid X.out; clear X
          have X := Lib.hid (MB.out.below (Below.refl _ _).drew); clear MB
          have MB := Lib.hid X.out; clear X
          refine wpX_quiet rfl (by kernel_rfl) rfl ?_; go_wp2_with (first | (refine wpList_load_row_g _ (by first | rfl | kernel_rfl) ⟨w7.heap.size, 0, none⟩ rfl csa agg_Cmd LA.out (blk_cells CA.out) ?_) | fail); refine ⟨rfl, ?_⟩
          refine wpX_quiet rfl (by kernel_rfl) rfl ?_; go_wp2_with (first | (refine wpList_load_row_g _ (by first | rfl | kernel_rfl) ⟨w7.heap.size + 1, 0, none⟩ rfl csb agg_Cmd LB.out (blk_cells CB.out) ?_) | fail); refine ⟨rfl, ?_⟩
          refine wpX_quiet rfl (by kernel_rfl) rfl ?_; go_wp2_with (first | (refine wpList_load_row_g _ (by first | rfl | kernel_rfl) ⟨w7.heap.size, 0, none⟩ rfl csa agg_Cmd LA.out (blk_cells CA.out) ?_) | fail); refine ⟨rfl, ?_⟩
          refine wpX_quiet rfl (by kernel_rfl) rfl ?_; go_wp2_with (first | (refine wpList_load_row_g _ (by first | rfl | kernel_rfl) ⟨w7.heap.size + 1, 0, none⟩ rfl csb agg_Cmd LB.out (blk_cells CB.out) ?_) | fail); refine ⟨rfl, ?_⟩
          refine wpX_actor rfl (by kernel_rfl) ?_; go_wp2_with fail
          refine (HAB.out _ MA.out.rep.any MB.out.rep.any).mono ?_
          rintro e y ⟨rfl, hb⟩
          have HX := Lib.hid hb; clear hb
          have X := Lib.hid (MA.out.below HX.out); clear MA
          have MA := Lib.hid X.out; clear X
          have X := Lib.hid (MB.out.below HX.out); clear MB
          have MB := Lib.hid X.out; clear X
          have X := Lib.hid (CA.out.below HX.out); clear CA
          have CA := Lib.hid X.out; clear X
          have X := Lib.hid (CB.out.below HX.out); clear CB
          have CB := Lib.hid X.out; clear X
          have X := Lib.hid (B.out.trans (HX.out.mono B.out.size)); clear B
          have B := Lib.hid X.out; clear X
          go_wp2; refine ⟨Ext.of_below HX.out, ?_⟩
          clear HX
          refine wpX_actor rfl (by kernel_rfl) ?_; go_wp2_with fail
          refine (HSB.out _ MA.out.rep.any MB.out.rep.any).mono ?_
          rintro e y ⟨rfl, hb⟩
          have HX := Lib.hid hb; clear hb
          have X := Lib.hid (MA.out.below HX.out); clear MA
          have MA := Lib.hid X.out; clear X
          have X := Lib.hid (MB.out.below HX.out); clear MB
          have MB := Lib.hid X.out; clear X
          have X := Lib.hid (CA.out.below HX.out); clear CA
          have CA := Lib.hid X.out; clear X
          have X := Lib.hid (CB.out.below HX.out); clear CB
          have CB := Lib.hid X.out; clear X
          have X := Lib.hid (B.out.trans (HX.out.mono B.out.size)); clear B
          have B := Lib.hid X.out; clear X
          go_wp2; refine ⟨Ext.of_below HX.out, ?_⟩
          clear HX
          iterate 2 (refine wpX_quiet rfl (by kernel_rfl) rfl ?_; go_wp2; refine ⟨rfl, ?_⟩)
          refine wpX_quiet rfl (by kernel_rfl) rfl ?_; go_wp2_with (first | (refine wpList_load_row_g _ (by first | rfl | kernel_rfl) ⟨w7.heap.size, 0, none⟩ rfl csa agg_Cmd LA.out (blk_cells CA.out) ?_) | fail); refine ⟨rfl, ?_⟩
          refine wpX_quiet rfl (by kernel_rfl) rfl ?_; go_wp2_with (first | (refine wpList_load_row_g _ (by first | rfl | kernel_rfl) ⟨w7.heap.size + 1, 0, none⟩ rfl csb agg_Cmd LB.out (blk_cells CB.out) ?_) | fail); refine ⟨rfl, ?_⟩
          refine wpX_quiet rfl (by kernel_rfl) rfl ?_; go_wp2_with (first | (refine wpList_load_row_g _ (by first | rfl | kernel_rfl) ⟨w7.heap.size + 1, 0, none⟩ rfl csb agg_Cmd LB.out (blk_cells CB.out) ?_) | fail); refine ⟨rfl, ?_⟩
          refine wpX_quiet rfl (by kernel_rfl) rfl ?_; go_wp2_with (first | (refine wpList_load_row_g _ (by first | rfl | kernel_rfl) ⟨w7.heap.size, 0, none⟩ rfl csa agg_Cmd LA.out (blk_cells CA.out) ?_) | fail); refine ⟨rfl, ?_⟩
          refine wpX_actor rfl (by kernel_rfl) ?_; go_wp2_with fail
          refine (HAB.out _ MA.out.rep.any MB.out.rep.any).mono ?_
          rintro e y ⟨rfl, hb⟩
          have HX := Lib.hid hb; clear hb
          have X := Lib.hid (MA.out.below HX.out); clear MA
          have MA := Lib.hid X.out; clear X
          have X := Lib.hid (MB.out.below HX.out); clear MB
          have MB := Lib.hid X.out; clear X
          have X := Lib.hid (CA.out.below HX.out); clear CA
          have CA := Lib.hid X.out; clear X
          have X := Lib.hid (CB.out.below HX.out); clear CB
          have CB := Lib.hid X.out; clear X
          have X := Lib.hid (B.out.trans (HX.out.mono B.out.size)); clear B
          have B := Lib.hid X.out; clear X
          go_wp2; refine ⟨Ext.of_below HX.out, ?_⟩
          clear HX
          refine wpX_actor rfl (by kernel_rfl) ?_; go_wp2_with fail
          refine (HBA.out _ MB.out.rep.any MA.out.rep.any).mono ?_
          rintro e y ⟨rfl, hb⟩
          have HX := Lib.hid hb; clear hb
          have X := Lib.hid (MA.out.below HX.out); clear MA
          have MA := Lib.hid X.out; clear X
          have X := Lib.hid (MB.out.below HX.out); clear MB
          have MB := Lib.hid X.out; clear X
          have X := Lib.hid (CA.out.below HX.out); clear CA
          have CA := Lib.hid X.out; clear X
          have X := Lib.hid (CB.out.below HX.out); clear CB
          have CB := Lib.hid X.out; clear X
          have X := Lib.hid (B.out.trans (HX.out.mono B.out.size)); clear B
          have B := Lib.hid X.out; clear X
          go_wp2; refine ⟨Ext.of_below HX.out, ?_⟩
          clear HX
          iterate 3 (refine wpX_quiet rfl (by kernel_rfl) rfl ?_; go_wp2; refine ⟨rfl, ?_⟩)
          refine wpX_quiet rfl (by kernel_rfl) rfl ?_; go_wp2_with (first | (refine wpList_load_row_g _ (by first | rfl | kernel_rfl) ⟨w7.heap.size, 0, none⟩ rfl csa agg_Cmd LA.out (blk_cells CA.out) ?_) | fail); refine ⟨rfl, ?_⟩
          iterate 1 (refine wpX_quiet rfl (by kernel_rfl) rfl ?_; go_wp2; refine ⟨rfl, ?_⟩)
          refine wpX_actor rfl (by kernel_rfl) ?_; go_wp2_with fail
          refine (HAZ.out _ MA.out.rep.any).mono ?_
          rintro e y ⟨rfl, hb⟩
          have HX := Lib.hid hb; clear hb
          have X := Lib.hid (MA.out.below HX.out); clear MA
          have MA := Lib.hid X.out; clear X
          have X := Lib.hid (MB.out.below HX.out); clear MB
          have MB := Lib.hid X.out; clear X
          have X := Lib.hid (CA.out.below HX.out); clear CA
          have CA := Lib.hid X.out; clear X
          have X := Lib.hid (CB.out.below HX.out); clear CB
          have CB := Lib.hid X.out; clear X
          have X := Lib.hid (B.out.trans (HX.out.mono B.out.size)); clear B
          have B := Lib.hid X.out; clear X
          go_wp2; refine ⟨Ext.of_below HX.out, ?_⟩
          clear HX
          iterate 3 (refine wpX_quiet rfl (by kernel_rfl) rfl ?_; go_wp2; refine ⟨rfl, ?_⟩)
          refine wpX_quiet rfl (by kernel_rfl) rfl ?_; go_wp2_with (first | (refine wpList_load_row_g _ (by first | rfl | kernel_rfl) ⟨w7.heap.size, 0, none⟩ rfl csa agg_Cmd LA.out (blk_cells CA.out) ?_) | fail); refine ⟨rfl, ?_⟩
          refine wpX_actor rfl (by kernel_rfl) ?_; go_wp2_with fail
          refine (HOK.out _ MA.out.rep.any).mono ?_
          rintro e y ⟨rfl, hb⟩
          have HX := Lib.hid hb; clear hb
          have X := Lib.hid (MA.out.below HX.out); clear MA
          have MA := Lib.hid X.out; clear X
          have X := Lib.hid (MB.out.below HX.out); clear MB
          have MB := Lib.hid X.out; clear X
          have X := Lib.hid (CA.out.below HX.out); clear CA
          have CA := Lib.hid X.out; clear X
          have X := Lib.hid (CB.out.below HX.out); clear CB
          have CB := Lib.hid X.out; clear X
          have X := Lib.hid (B.out.trans (HX.out.mono B.out.size)); clear B
          have B := Lib.hid X.out; clear X
          go_wp2; refine ⟨Ext.of_below HX.out, ?_⟩
          clear HX
          iterate 3 (refine wpX_quiet rfl (by kernel_rfl) rfl ?_; go_wp2; refine ⟨rfl, ?_⟩)
          have ck := blk_cell0 CA.out 0 KA.out
          iterate 1 (refine wpX_quiet rfl (by kernel_rfl) rfl ?_; go_wp2; refine ⟨rfl, ?_⟩)
          clear ck
          iterate 3 (refine wpX_quiet rfl (by kernel_rfl) rfl ?_; go_wp2; refine ⟨rfl, ?_⟩)
          refine wpX_quiet rfl (by kernel_rfl) rfl ?_; go_wp2_with (first | (refine wpList_load_row_g _ (by first | rfl | kernel_rfl) ⟨w7.heap.size, 0, none⟩ rfl csa agg_Cmd LA.out (blk_cells CA.out) ?_) | fail); refine ⟨rfl, ?_⟩
          refine wpX_quiet rfl (by kernel_rfl) rfl ?_; go_wp2_with (first | (refine wpList_load_row_g _ (by first | rfl | kernel_rfl) ⟨w7.heap.size, 0, none⟩ rfl csa agg_Cmd LA.out (blk_cells CA.out) ?_) | fail); refine ⟨rfl, ?_⟩
          refine wpX_actor rfl (by kernel_rfl) ?_; go_wp2_with fail
          refine (HAA.out _ MA.out.rep.any).mono ?_
          rintro e y ⟨rfl, hb⟩
          have HX := Lib.hid hb; clear hb
          have X := Lib.hid (MA.out.below HX.out); clear MA
          have MA := Lib.hid X.out; clear X
          have X := Lib.hid (MB.out.below HX.out); clear MB
          have MB := Lib.hid X.out; clear X
          have X := Lib.hid (CA.out.below HX.out); clear CA
          have CA := Lib.hid X.out; clear X
          have X := Lib.hid (CB.out.below HX.out); clear CB
          have CB := Lib.hid X.out; clear X
          have X := Lib.hid (B.out.trans (HX.out.mono B.out.size)); clear B
          have B := Lib.hid X.out; clear X
          go_wp2; refine ⟨Ext.of_below HX.out, ?_⟩
          clear HX
          iterate 3 (refine wpX_quiet rfl (by kernel_rfl) rfl ?_; go_wp2; refine ⟨rfl, ?_⟩)
          refine wpX_nil ?_; try simp only [List.drop_succ_cons, List.drop_zero]
          go_wp2
          go_ret
          exact ⟨ret_eq (by first | rfl | simp), B.out⟩
    | false =>
      go_wp2_with fail
      clear M1 M2 M3 C1 C2 C3
      cases oka with
      | false =>
        refine wp_region_x 38 [0, 1, 3, 4, 2, 5, 6, 7, 8, 9, 11, 12, 10, 13, 14, 15, 16, 17, 18, 19, 20, 21, 22, 23, 24, 25, 26, 27, 28, 29, 30, 31, 32, 33, 34, 35, 36, 37] (by kernel_rfl) (by kernel_rfl) ?_
        have X := Lib.hid B.out.drew; clear B
        have B := Lib.hid X.out; clear X
        have X := Lib.hid CA.out.drew; clear CA
        have CA := Lib.hid X.out; clear X
        have X := Lib.hid CB.out.drew; clear CB
        have CB := Lib.hid X.out; clear X
        have X := Lib.hid (MA.out.below (Below.refl _ _).drew); clear MA
        have MA := Lib.hid X.out; clear X
        have X := Lib.hid (MB.out.below (Below.refl _ _).drew); clear MB
        have MB := Lib.hid X.out; clear X
        refine wpX_quiet rfl (by kernel_rfl) rfl ?_; go_wp2_with (first | (refine wpList_load_row_g _ (by first | rfl | kernel_rfl) ⟨w7.heap.size, 0, none⟩ rfl csa agg_Cmd LA.out (blk_cells CA.out) ?_) | fail); refine ⟨rfl, ?_⟩
        refine wpX_quiet rfl (by kernel_rfl) rfl ?_; go_wp2_with (first | (refine wpList_load_row_g _ (by first | rfl | kernel_rfl) ⟨w7.heap.size + 1, 0, none⟩ rfl csb agg_Cmd LB.out (blk_cells CB.out) ?_) | fail); refine ⟨rfl, ?_⟩
        refine wpX_quiet rfl (by kernel_rfl) rfl ?_; go_wp2_with (first | (refine wpList_load_row_g _ (by first | rfl | kernel_rfl) ⟨w7.heap.size, 0, none⟩ rfl csa agg_Cmd LA.out (blk_cells CA.out) ?_) | fail); refine ⟨rfl, ?_⟩
        refine wpX_quiet rfl (by kernel_rfl) rfl ?_; go_wp2_with (first | (refine wpList_load_row_g _ (by first | rfl | kernel_rfl) ⟨w7.heap.size + 1, 0, none⟩ rfl csb agg_Cmd LB.out (blk_cells CB.out) ?_) | fail); refine ⟨rfl, ?_⟩
        refine wpX_actor rfl (by kernel_rfl) ?_; go_wp2_with fail
        refine (HAB.out _ MA.out.rep.any MB.out.rep.any).mono ?_
        rintro e y ⟨rfl, hb⟩
        have HX := Lib.hid hb; clear hb
        have X := Lib.hid (MA.out.below HX.out); clear MA
        have MA := Lib.hid X.out; clear X
        have X := Lib.hid (MB.out.below HX.out); clear MB
        have MB := Lib.hid X.out; clear X
        have X := Lib.hid (CA.out.below HX.out); clear CA
        have CA := Lib.hid X.out; clear X
        have X := Lib.hid (CB.out.below HX.out); clear CB
        have CB := Lib.hid X.out; clear X
        have X := Lib.hid (B.out.trans (HX.out.mono B.out.size)); clear B
        have B := Lib.hid X.out; clear X
        go_wp2; refine ⟨Ext.of_below HX.out, ?_⟩
        clear HX
        refine wpX_actor rfl (by kernel_rfl) ?_; go_wp2_with fail
        refine (HSB.out _ MA.out.rep.any MB.out.rep.any).mono ?_
        rintro e y ⟨rfl, hb⟩
        have HX := Lib.hid hb; clear hb
        have X := Lib.hid (MA.out.below HX.out); clear MA
        have MA := Lib.hid X.out; clear X
        have X := Lib.hid (MB.out.below HX.out); clear MB
        have MB := Lib.hid X.out; clear X
        have X := Lib.hid (CA.out.below HX.out); clear CA
        have CA := Lib.hid X.out; clear X
        have X := Lib.hid (CB.out.below HX.out); clear CB
        have CB := Lib.hid X.out; clear X
        have X := Lib.hid (B.out.trans (HX.out.mono B.out.size)); clear B
        have B := Lib.hid X.out; clear X
        go_wp2; refine ⟨Ext.of_below HX.out, ?_⟩
        clear HX
        iterate 2 (refine wpX_quiet rfl (by kernel_rfl) rfl ?_; go_wp2; refine ⟨rfl, ?_⟩)
        refine wpX_quiet rfl (by kernel_rfl) rfl ?_; go_wp2_with (first | (refine wpList_load_row_g _ (by first | rfl | kernel_rfl) ⟨w7.heap.size, 0, none⟩ rfl csa agg_Cmd LA.out (blk_cells CA.out) ?_) | fail); refine ⟨rfl, ?_⟩
        refine wpX_quiet rfl (by kernel_rfl) rfl ?_; go_wp2_with (first | (refine wpList_load_row_g _ (by first | rfl | kernel_rfl) ⟨w7.heap.size + 1, 0, none⟩ rfl csb agg_Cmd LB.out (blk_cells CB.out) ?_) | fail); refine ⟨rfl, ?_⟩
        refine wpX_quiet rfl (by kernel_rfl) rfl ?_; go_wp2_with (first | (refine wpList_load_row_g _ (by first | rfl | kernel_rfl) ⟨w7.heap.size + 1, 0, none⟩ rfl csb agg_Cmd LB.out (blk_cells CB.out) ?_) | fail); refine ⟨rfl, ?_⟩
        refine wpX_quiet rfl (by kernel_rfl) rfl ?_; go_wp2_with (first | (refine wpList_load_row_g _ (by first | rfl | kernel_rfl) ⟨w7.heap.size, 0, none⟩ rfl csa agg_Cmd LA.out (blk_cells CA.out) ?_) | fail); refine ⟨rfl, ?_⟩
        refine wpX_actor rfl (by kernel_rfl) ?_; go_wp2_with fail
        refine (HAB.out _ MA.out.rep.any MB.out.rep.any).mono ?_
        rintro e y ⟨rfl, hb⟩
        have HX := Lib.hid hb; clear hb
        have X := Lib.hid (MA.out.below HX.out); clear MA
        have MA := Lib.hid X.out; clear X
        have X := Lib.hid (MB.out.below HX.out); clear MB
        have MB := Lib.hid X.out; clear X
        have X := Lib.hid (CA.out.below HX.out); clear CA
        have CA := Lib.hid X.out; clear X
        have X := Lib.hid (CB.out.below HX.out); clear CB
        have CB := Lib.hid X.out; clear X
        have X := Lib.hid (B.out.trans (HX.out.mono B.out.size)); clear B
        have B := Lib.hid X.out; clear X
        go_wp2; refine ⟨Ext.of_below HX.out, ?_⟩
        clear HX
        refine wpX_actor rfl (by kernel_rfl) ?_; go_wp2_with fail
        refine (HBA.out _ MB.out.rep.any MA.out.rep.any).mono ?_
        rintro e y ⟨rfl, hb⟩
        have HX := Lib.hid hb; clear hb
        have X := Lib.hid (MA.out.below HX.out); clear MA
        have MA := Lib.hid X.out; clear X
        have X := Lib.hid (MB.out.below HX.out); clear MB
        have MB := Lib.hid X.out; clear X
        have X := Lib.hid (CA.out.below HX.out); clear CA
        have CA := Lib.hid X.out; clear X
        have X := Lib.hid (CB.out.below HX.out); clear CB
        have CB := Lib.hid X.out; clear X
        have X := Lib.hid (B.out.trans (HX.out.mono B.out.size)); clear B
        have B := Lib.hid X.out; clear X
        go_wp2; refine ⟨Ext.of_below HX.out, ?_⟩
        clear HX
        iterate 3 (refine wpX_quiet rfl (by kernel_rfl) rfl ?_; go_wp2; refine ⟨rfl, ?_⟩)
        refine wpX_quiet rfl (by kernel_rfl) rfl ?_; go_wp2_with (first | (refine wpList_load_row_g _ (by first | rfl | kernel_rfl) ⟨w7.heap.size, 0, none⟩ rfl csa agg_Cmd LA.out (blk_cells CA.out) ?_) | fail); refine ⟨rfl, ?_⟩
        iterate 1 (refine wpX_quiet rfl (by kernel_rfl) rfl ?_; go_wp2; refine ⟨rfl, ?_⟩)
        refine wpX_actor rfl (by kernel_rfl) ?_; go_wp2_with fail
        refine (HAZ.out _ MA.out.rep.any).mono ?_
        rintro e y ⟨rfl, hb⟩
        have HX := Lib.hid hb; clear hb
        have X := Lib.hid (MA.out.below HX.out); clear MA
        have MA := Lib.hid X.out; clear X
        have X := Lib.hid (MB.out.below HX.out); clear MB
        have MB := Lib.hid X.out; clear X
        have X := Lib.hid (CA.out.below HX.out); clear CA
        have CA := Lib.hid X.out; clear X
        have X := Lib.hid (CB.out.below HX.out); clear CB
        have CB := Lib.hid X.out; clear X
        have X := Lib.hid (B.out.trans (HX.out.mono B.out.size)); clear B
        have B := Lib.hid X.out; clear X
        go_wp2; refine ⟨Ext.of_below HX.out, ?_⟩
        clear HX
        iterate 3 (refine wpX_quiet rfl (by kernel_rfl) rfl ?_; go_wp2; refine ⟨rfl, ?_⟩)
        refine wpX_quiet rfl (by kernel_rfl) rfl ?_; go_wp2_with (first | (refine wpList_load_row_g _ (by first | rfl | kernel_rfl) ⟨w7.heap.size, 0, none⟩ rfl csa agg_Cmd LA.out (blk_cells CA.out) ?_) | fail); refine ⟨rfl, ?_⟩
        refine wpX_actor rfl (by kernel_rfl) ?_; go_wp2_with fail
        refine (HOK.out _ MA.out.rep.any).mono ?_
        rintro e y ⟨rfl, hb⟩
        have HX := Lib.hid hb; clear hb
        have X := Lib.hid (MA.out.below HX.out); clear MA
        have MA := Lib.hid X.out; clear X
        have X := Lib.hid (MB.out.below HX.out); clear MB
        have MB := Lib.hid X.out; clear X
        have X := Lib.hid (CA.out.below HX.out); clear CA
        have CA := Lib.hid X.out; clear X
        have X := Lib.hid (CB.out.below HX.out); clear CB
        have CB := Lib.hid X.out; clear X
        have X := Lib.hid (B.out.trans (HX.out.mono B.out.size)); clear B
        have B := Lib.hid X.out; clear X
        go_wp2; refine ⟨Ext.of_below HX.out, ?_⟩
        clear HX
        iterate 2 (refine wpX_quiet rfl (by kernel_rfl) rfl ?_; go_wp2; refine ⟨rfl, ?_⟩)
        (iterate 3 (refine wpX_skip2 rfl rfl (by kernel_rfl) ?_)); simp only [List.setIfInBounds_toArray, List.set_cons_succ, List.set_cons_zero]
        iterate 2 (refine wpX_quiet rfl (by kernel_rfl) rfl ?_; go_wp2; refine ⟨rfl, ?_⟩)
        (iterate 3 (refine wpX_skip2 rfl rfl (by kernel_rfl) ?_)); simp only [List.setIfInBounds_toArray, List.set_cons_succ, List.set_cons_zero]
        iterate 3 (refine wpX_quiet rfl (by kernel_rfl) rfl ?_; go_wp2; refine ⟨rfl, ?_⟩)
        refine wpX_nil ?_; try simp only [List.drop_succ_cons, List.drop_zero]
        go_wp2
        go_ret
        exact ⟨ret_eq (by first | rfl | simp), B.out⟩
      | true =>
        cases hk0 : (kd == 0) with
        | true =>
          refine wp_region_x 38 [0, 1, 3, 4, 2, 5, 6, 7, 8, 9, 11, 12, 10, 13, 14, 15, 16, 17, 18, 19, 20, 21, 22, 23, 24, 25, 26, 27, 28, 29, 30, 31, 32, 33, 34, 35, 36, 37] (by kernel_rfl) (by kernel_rfl) ?_
          have X := Lib.hid B.out.drew; clear B
          have B := Lib.hid X.out; clear X
          have X := Lib.hid CA.out.drew; clear CA
          have CA := Lib.hid X.out; clear X
          have X := Lib.hid CB.out.drew; clear CB
          have CB := Lib.hid X.out; clear X
          have X := Lib.hid (MA.out.below (Below.refl _ _).drew); clear MA
          have MA := Lib.hid X.out; clear X
          have X := Lib.hid (MB.out.below (Below.refl _ _).drew); clear MB
          have MB := Lib.hid X.out; clear X
          refine wpX_quiet rfl (by kernel_rfl) rfl ?_; go_wp2_with (first | (refine wpList_load_row_g _ (by first | rfl | kernel_rfl) ⟨w7.heap.size, 0, none⟩ rfl csa agg_Cmd LA.out (blk_cells CA.out) ?_) | fail); refine ⟨rfl, ?_⟩
          refine wpX_quiet rfl (by kernel_rfl) rfl ?_; go_wp2_with (first | (refine wpList_load_row_g _ (by first | rfl | kernel_rfl) ⟨w7.heap.size + 1, 0, none⟩ rfl csb agg_Cmd LB.out (blk_cells CB.out) ?_) | fail); refine ⟨rfl, ?_⟩
          refine wpX_quiet rfl (by kernel_rfl) rfl ?_; go_wp2_with (first | (refine wpList_load_row_g _ (by first | rfl | kernel_rfl) ⟨w7.heap.size, 0, none⟩ rfl csa agg_Cmd LA.out (blk_cells CA.out) ?_) | fail); refine ⟨rfl, ?_⟩
          refine wpX_quiet rfl (by kernel_rfl) rfl ?_; go_wp2_with (first | (refine wpList_load_row_g _ (by first | rfl | kernel_rfl) ⟨w7.heap.size + 1, 0, none⟩ rfl csb agg_Cmd LB.out (blk_cells CB.out) ?_) | fail); refine ⟨rfl, ?_⟩
          refine wpX_actor rfl (by kernel_rfl) ?_; go_wp2_with fail
          refine (HAB.out _ MA.out.rep.any MB.out.rep.any).mono ?_
          rintro e y ⟨rfl, hb⟩
          have HX := Lib.hid hb; clear hb
          have X := Lib.hid (MA.out.below HX.out); clear MA
          have MA := Lib.hid X.out; clear X
          have X := Lib.hid (MB.out.below HX.out); clear MB
          have MB := Lib.hid X.out; clear X
          have X := Lib.hid (CA.out.below HX.out); clear CA
          have CA := Lib.hid X.out; clear X
          have X := Lib.hid (CB.out.below HX.out); clear CB
          have CB := Lib.hid X.out; clear X
          have X := Lib.hid (B.out.trans (HX.out.mono B.out.size)); clear B
          have B := Lib.hid X.out; clear X
          go_wp2; refine ⟨Ext.of_below HX.out, ?_⟩
          clear HX
          refine wpX_actor rfl (by kernel_rfl) ?_; go_wp2_with fail
          refine (HSB.out _ MA.out.rep.any MB.out.rep.any).mono ?_
          rintro e y ⟨rfl, hb⟩
          have HX := Lib.hid hb; clear hb
          have X := Lib.hid (MA.out.below HX.out); clear MA
          have MA := Lib.hid X.out; clear X
          have X := Lib.hid (MB.out.below HX.out); clear MB
          have MB := Lib.hid X.out; clear X
          have X := Lib.hid (CA.out.below HX.out); clear CA
          have CA := Lib.hid X.out; clear X
          have X := Lib.hid (CB.out.below HX.out); clear CB
          have CB := Lib.hid X.out; clear X
          have X := Lib.hid (B.out.trans (HX.out.mono B.out.size)); clear B
          have B := Lib.hid X.out; clear X
          go_wp2; refine ⟨Ext.of_below HX.out, ?_⟩
          clear HX
          iterate 2 (refine wpX_quiet rfl (by kernel_rfl) rfl ?_; go_wp2; refine ⟨rfl, ?_⟩)
          refine wpX_quiet rfl (by kernel_rfl) rfl ?_; go_wp2_with (first | (refine wpList_load_row_g _ (by first | rfl | kernel_rfl) ⟨w7.heap.size, 0, none⟩ rfl csa agg_Cmd LA.out (blk_cells CA.out) ?_) | fail); refine ⟨rfl, ?_⟩
          refine wpX_quiet rfl (by kernel_rfl) rfl ?_; go_wp2_with (first | (refine wpList_load_row_g _ (by first | rfl | kernel_rfl) ⟨w7.heap.size + 1, 0, none⟩ rfl csb agg_Cmd LB.out (blk_cells CB.out) ?_) | fail); refine ⟨rfl, ?_⟩
          refine wpX_quiet rfl (by kernel_rfl) rfl ?_; go_wp2_with (first | (refine wpList_load_row_g _ (by first | rfl | kernel_rfl) ⟨w7.heap.size + 1, 0, none⟩ rfl csb agg_Cmd LB.out (blk_cells CB.out) ?_) | fail); refine ⟨rfl, ?_⟩
          refine wpX_quiet rfl (by kernel_rfl) rfl ?_; go_wp2_with (first | (refine wpList_load_row_g _ (by first | rfl | kernel_rfl) ⟨w7.heap.size, 0, none⟩ rfl csa agg_Cmd LA.out (blk_cells CA.out) ?_) | fail); refine ⟨rfl, ?_⟩
          refine wpX_actor rfl (by kernel_rfl) ?_; go_wp2_with fail
          refine (HAB.out _ MA.out.rep.any MB.out.rep.any).mono ?_
          rintro e y ⟨rfl, hb⟩
          have HX := Lib.hid hb; clear hb
          have X := Lib.hid (MA.out.below HX.out); clear MA
          have MA := Lib.hid X.out; clear X
          have X := Lib.hid (MB.out.below HX.out); clear MB
          have MB := Lib.hid X.out; clear X
          have X := Lib.hid (CA.out.below HX.out); clear CA
          have CA := Lib.hid X.out; clear X
          have X := Lib.hid (CB.out.below HX.out); clear CB
          have CB := Lib.hid X.out; clear X
          have X := Lib.hid (B.out.trans (HX.out.mono B.out.size)); clear B
          have B := Lib.hid X.out; clear X
          go_wp2; refine ⟨Ext.of_below HX.out, ?_⟩
          clear HX
          refine wpX_actor rfl (by kernel_rfl) ?_; go_wp2_with fail
          refine (HBA.out _ MB.out.rep.any MA.out.rep.any).mono ?_
          rintro e y ⟨rfl, hb⟩
          have HX := Lib.hid hb; clear hb
          have X := Lib.hid (MA.out.below HX.out); clear MA
          have MA := Lib.hid X.out; clear X
          have X := Lib.hid (MB.out.below HX.out); clear MB
          have MB := Lib.hid X.out; clear X
          have X := Lib.hid (CA.out.below HX.out); clear CA
          have CA := Lib.hid X.out; clear X
          have X := Lib.hid (CB.out.below HX.out); clear CB
          have CB := Lib.hid X.out; clear X
          have X := Lib.hid (B.out.trans (HX.out.mono B.out.size)); clear B
          have B := Lib.hid X.out; clear X
          go_wp2; refine ⟨Ext.of_below HX.out, ?_⟩
          clear HX
          iterate 3 (refine wpX_quiet rfl (by kernel_rfl) rfl ?_; go_wp2; refine ⟨rfl, ?_⟩)
          refine wpX_quiet rfl (by kernel_rfl) rfl ?_; go_wp2_with (first | (refine wpList_load_row_g _ (by first | rfl | kernel_rfl) ⟨w7.heap.size, 0, none⟩ rfl csa agg_Cmd LA.out (blk_cells CA.out) ?_) | fail); refine ⟨rfl, ?_⟩
          iterate 1 (refine wpX_quiet rfl (by kernel_rfl) rfl ?_; go_wp2; refine ⟨rfl, ?_⟩)
          refine wpX_actor rfl (by kernel_rfl) ?_; go_wp2_with fail
          refine (HAZ.out _ MA.out.rep.any).mono ?_
          rintro e y ⟨rfl, hb⟩
          have HX := Lib.hid hb; clear hb
          have X := Lib.hid (MA.out.below HX.out); clear MA
          have MA := Lib.hid X.out; clear X
          have X := Lib.hid (MB.out.below HX.out); clear MB
          have MB := Lib.hid X.out; clear X
          have X := Lib.hid (CA.out.below HX.out); clear CA
          have CA := Lib.hid X.out; clear X
          have X := Lib.hid (CB.out.below HX.out); clear CB
          have CB := Lib.hid X.out; clear X
          have X := Lib.hid (B.out.trans (HX.out.mono B.out.size)); clear B
          have B := Lib.hid X.out; clear X
          go_wp2; refine ⟨Ext.of_below HX.out, ?_⟩
          clear HX
          iterate 3 (refine wpX_quiet rfl (by kernel_rfl) rfl ?_; go_wp2; refine ⟨rfl, ?_⟩)
          refine wpX_quiet rfl (by kernel_rfl) rfl ?_; go_wp2_with (first | (refine wpList_load_row_g _ (by first | rfl | kernel_rfl) ⟨w7.heap.size, 0, none⟩ rfl csa agg_Cmd LA.out (blk_cells CA.out) ?_) | fail); refine ⟨rfl, ?_⟩
          refine wpX_actor rfl (by kernel_rfl) ?_; go_wp2_with fail
          refine (HOK.out _ MA.out.rep.any).mono ?_
          rintro e y ⟨rfl, hb⟩
          have HX := Lib.hid hb; clear hb
          have X := Lib.hid (MA.out.below HX.out); clear MA
          have MA := Lib.hid X.out; clear X
          have X := Lib.hid (MB.out.below HX.out); clear MB
          have MB := Lib.hid X.out; clear X
          have X := Lib.hid (CA.out.below HX.out); clear CA
          have CA := Lib.hid X.out; clear X
          have X := Lib.hid (CB.out.below HX.out); clear CB
          have CB := Lib.hid X.out; clear X
          have X := Lib.hid (B.out.trans (HX.out.mono B.out.size)); clear B
          have B := Lib.hid X.out; clear X
          go_wp2; refine ⟨Ext.of_below HX.out, ?_⟩
          clear HX
          iterate 3 (refine wpX_quiet rfl (by kernel_rfl) rfl ?_; go_wp2; refine ⟨rfl, ?_⟩)
          have ck := blk_cell0 CA.out 0 KA.out
          iterate 1 (refine wpX_quiet rfl (by kernel_rfl) rfl ?_; go_wp2; refine ⟨rfl, ?_⟩)
          clear ck
          iterate 3 (refine wpX_quiet rfl (by kernel_rfl) rfl ?_; go_wp2; refine ⟨rfl, ?_⟩)
          (iterate 3 (refine wpX_skip2 rfl rfl (by kernel_rfl) ?_)); simp only [List.setIfInBounds_toArray, List.set_cons_succ, List.set_cons_zero]
          iterate 3 (refine wpX_quiet rfl (by kernel_rfl) rfl ?_; go_wp2; refine ⟨rfl, ?_⟩)
          refine wpX_nil ?_; try simp only [List.drop_succ_cons, List.drop_zero]
          go_wp2
          go_ret
          exact ⟨ret_eq (by first | rfl | simp), B.out⟩
        | false =>
          obtain rfl := HSELF.out (by first | rfl | trivial) hk0
          refine wp_region_x 38 [0, 1, 3, 4, 2, 5, 6, 7, 8, 9, 11, 12, 10, 13, 14, 15, 16, 17, 18, 19, 20, 21, 22, 23, 24, 25, 26, 27, 28, 29, 30, 31, 32, 33, 34, 35, 36, 37] (by kernel_rfl) (by kernel_rfl) ?_
          have X := Lib.hid B.out.drew; clear B
          have B := Lib.hid X.out; clear X
          have X := Lib.hid CA.out.drew; clear CA
          have CA := Lib.hid X.out; clear X
          have X := Lib.hid CB.out.drew; clear CB
          have CB := Lib.hid X.out; clear X
          have X := Lib.hid (MA.out.below (Below.refl _ _).drew); clear MA
          have MA := Lib.hid X.out; clear X
          have X := Lib.hid (MB.out.below (Below.refl _ _).drew); clear MB
          have MB := Lib.hid X.out; clear X
          refine wpX_quiet rfl (by kernel_rfl) rfl ?_; go_wp2_with (first | (refine wpList_load_row_g _ (by first | rfl | kernel_rfl) ⟨w7.heap.size, 0, none⟩ rfl csa agg_Cmd LA.out (blk_cells CA.out) ?_) | fail); refine ⟨rfl, ?_⟩
          refine wpX_quiet rfl (by kernel_rfl) rfl ?_; go_wp2_with (first | (refine wpList_load_row_g _ (by first | rfl | kernel_rfl) ⟨w7.heap.size + 1, 0, none⟩ rfl csb agg_Cmd LB.out (blk_cells CB.out) ?_) | fail); refine ⟨rfl, ?_⟩
          refine wpX_quiet rfl (by kernel_rfl) rfl ?_; go_wp2_with (first | (refine wpList_load_row_g _ (by first | rfl | kernel_rfl) ⟨w7.heap.size, 0, none⟩ rfl csa agg_Cmd LA.out (blk_cells CA.out) ?_) | fail); refine ⟨rfl, ?_⟩
          refine wpX_quiet rfl (by kernel_rfl) rfl ?_; go_wp2_with (first | (refine wpList_load_row_g _ (by first | rfl | kernel_rfl) ⟨w7.heap.size + 1, 0, none⟩ rfl csb agg_Cmd LB.out (blk_cells CB.out) ?_) | fail); refine ⟨rfl, ?_⟩
          refine wpX_actor rfl (by kernel_rfl) ?_; go_wp2_with fail
          refine (HAB.out _ MA.out.rep.any MB.out.rep.any).mono ?_
          rintro e y ⟨rfl, hb⟩
          have HX := Lib.hid hb; clear hb
          have X := Lib.hid (MA.out.below HX.out); clear MA
          have MA := Lib.hid X.out; clear X
          have X := Lib.hid (MB.out.below HX.out); clear MB
          have MB := Lib.hid X.out; clear X
          have X := Lib.hid (CA.out.below HX.out); clear CA
          have CA := Lib.hid X.out; clear X
          have X := Lib.hid (CB.out.below HX.out); clear CB
          have CB := Lib.hid X.out; clear X
          have X := Lib.hid (B.out.trans (HX.out.mono B.out.size)); clear B
          have B := Lib.hid X.out; clear X
          go_wp2; refine ⟨Ext.of_below HX.out, ?_⟩
          clear HX
          refine wpX_actor rfl (by kernel_rfl) ?_; go_wp2_with fail
          refine (HSB.out _ MA.out.rep.any MB.out.rep.any).mono ?_
          rintro e y ⟨rfl, hb⟩
          have HX := Lib.hid hb; clear hb
          have X := Lib.hid (MA.out.below HX.out); clear MA
          have MA := Lib.hid X.out; clear X
          have X := Lib.hid (MB.out.below HX.out); clear MB
          have MB := Lib.hid X.out; clear X
          have X := Lib.hid (CA.out.below HX.out); clear CA
          have CA := Lib.hid X.out; clear X
          have X := Lib.hid (CB.out.below HX.out); clear CB
          have CB := Lib.hid X.out; clear X
          have X := Lib.hid (B.out.trans (HX.out.mono B.out.size)); clear B
          have B := Lib.hid X.out; clear X
          go_wp2; refine ⟨Ext.of_below HX.out, ?_⟩
          clear HX
          iterate 2 (refine wpX_quiet rfl (by kernel_rfl) rfl ?_; go_wp2; refine ⟨rfl, ?_⟩)
          refine wpX_quiet rfl (by kernel_rfl) rfl ?_; go_wp2_with (first | (refine wpList_load_row_g _ (by first | rfl | kernel_rfl) ⟨w7.heap.size, 0, none⟩ rfl csa agg_Cmd LA.out (blk_cells CA.out) ?_) | fail); refine ⟨rfl, ?_⟩
          refine wpX_quiet rfl (by kernel_rfl) rfl ?_; go_wp2_with (first | (refine wpList_load_row_g _ (by first | rfl | kernel_rfl) ⟨w7.heap.size + 1, 0, none⟩ rfl csb agg_Cmd LB.out (blk_cells CB.out) ?_) | fail); refine ⟨rfl, ?_⟩
          refine wpX_quiet rfl (by kernel_rfl) rfl ?_; go_wp2_with (first | (refine wpList_load_row_g _ (by first | rfl | kernel_rfl) ⟨w7.heap.size + 1, 0, none⟩ rfl csb agg_Cmd LB.out (blk_cells CB.out) ?_) | fail); refine ⟨rfl, ?_⟩
          refine wpX_quiet rfl (by kernel_rfl) rfl ?_; go_wp2_with (first | (refine wpList_load_row_g _ (by first | rfl | kernel_rfl) ⟨w7.heap.size, 0, none⟩ rfl csa agg_Cmd LA.out (blk_cells CA.out) ?_) | fail); refine ⟨rfl, ?_⟩
          refine wpX_actor rfl (by kernel_rfl) ?_; go_wp2_with fail
          refine (HAB.out _ MA.out.rep.any MB.out.rep.any).mono ?_
          rintro e y ⟨rfl, hb⟩
          have HX := Lib.hid hb; clear hb
          have X := Lib.hid (MA.out.below HX.out); clear MA
          have MA := Lib.hid X.out; clear X
          have X := Lib.hid (MB.out.below HX.out); clear MB
          have MB := Lib.hid X.out; clear X
          have X := Lib.hid (CA.out.below HX.out); clear CA
          have CA := Lib.hid X.out; clear X
          have X := Lib.hid (CB.out.below HX.out); clear CB
          have CB := Lib.hid X.out; clear X
          have X := Lib.hid (B.out.trans (HX.out.mono B.out.size)); clear B
          have B := Lib.hid X.out; clear X
          go_wp2; refine ⟨Ext.of_below HX.out, ?_⟩
          clear HX
          refine wpX_actor rfl (by kernel_rfl) ?_; go_wp2_with fail
          refine (HBA.out _ MB.out.rep.any MA.out.rep.any).mono ?_
          rintro e y ⟨rfl, hb⟩
          have HX := Lib.hid hb; clear hb
          have X := Lib.hid (MA.out.below HX.out); clear MA
          have MA := Lib.hid X.out; clear X
          have X := Lib.hid (MB.out.below HX.out); clear MB
          have MB := Lib.hid X.out; clear X
          have X := Lib.hid (CA.out.below HX.out); clear CA
          have CA := Lib.hid X.out; clear X
          have X := Lib.hid (CB.out.below HX.out); clear CB
          have CB := Lib.hid X.out; clear X
          have X := Lib.hid (B.out.trans (HX.out.mono B.out.size)); clear B
          have B := Lib.hid X.out; clear X
          go_wp2; refine ⟨Ext.of_below HX.out, ?_⟩
          clear HX
          iterate 3 (refine wpX_quiet rfl (by kernel_rfl) rfl ?_; go_wp2; refine ⟨rfl, ?_⟩)
          refine wpX_quiet rfl (by kernel_rfl) rfl ?_; go_wp2_with (first | (refine wpList_load_row_g _ (by first | rfl | kernel_rfl) ⟨w7.heap.size, 0, none⟩ rfl csa agg_Cmd LA.out (blk_cells CA.out) ?_) | fail); refine ⟨rfl, ?_⟩
          iterate 1 (refine wpX_quiet rfl (by kernel_rfl) rfl ?_; go_wp2; refine ⟨rfl, ?_⟩)
          refine wpX_actor rfl (by kernel_rfl) ?_; go_wp2_with fail
          refine (HAZ.out _ MA.out.rep.any).mono ?_
          rintro e y ⟨rfl, hb⟩
          have HX := Lib.hid hb; clear hb
          have X := Lib.hid (MA.out.below HX.out); clear MA
          have MA := Lib.hid X.out; clear X
          have X := Lib.hid (MB.out.below HX.out); clear MB
          have MB := Lib.hid X.out; clear X
          have X := Lib.hid (CA.out.below HX.out); clear CA
          have CA := Lib.hid X.out; clear X
          have X := Lib.hid (CB.out.below HX.out); clear CB
          have CB := Lib.hid X.out; clear X
          have X := Lib.hid (B.out.trans (HX.out.mono B.out.size)); clear B
          have B := Lib.hid X.out; clear X
          go_wp2; refine ⟨Ext.of_below HX.out, ?_⟩
          clear HX
          iterate 3 (refine wpX_quiet rfl (by kernel_rfl) rfl ?_; go_wp2; refine ⟨rfl, ?_⟩)
          refine wpX_quiet rfl (by kernel_rfl) rfl ?_; go_wp2_with (first | (refine wpList_load_row_g _ (by first | rfl | kernel_rfl) ⟨w7.heap.size, 0, none⟩ rfl csa agg_Cmd LA.out (blk_cells CA.out) ?_) | fail); refine ⟨rfl, ?_⟩
          refine wpX_actor rfl (by kernel_rfl) ?_; go_wp2_with fail
          refine (HOK.out _ MA.out.rep.any).mono ?_
          rintro e y ⟨rfl, hb⟩
          have HX := Lib.hid hb; clear hb
          have X := Lib.hid (MA.out.below HX.out); clear MA
          have MA := Lib.hid X.out; clear X
          have X := Lib.hid (MB.out.below HX.out); clear MB
          have MB := Lib.hid X.out; clear X
          have X := Lib.hid (CA.out.below HX.out); clear CA
          have CA := Lib.hid X.out; clear X
          have X := Lib.hid (CB.out.below HX.out); clear CB
          have CB := Lib.hid X.out; clear X
          have X := Lib.hid (B.out.trans (HX.out.mono B.out.size)); clear B
          have B := Lib.hid X.out; clear X
          go_wp2; refine ⟨Ext.of_below HX.out, ?_⟩
          clear HX
          iterate 3 (refine wpX_quiet rfl (by kernel_rfl) rfl ?_; go_wp2; refine ⟨rfl, ?_⟩)
          have ck := blk_cell0 CA.out 0 KA.out
          iterate 1 (refine wpX_quiet rfl (by kernel_rfl) rfl ?_; go_wp2; refine ⟨rfl, ?_⟩)
          clear ck
          iterate 3 (refine wpX_quiet rfl (by kernel_rfl) rfl ?_; go_wp2; refine ⟨rfl, ?_⟩)
          refine wpX_quiet rfl (by kernel_rfl) rfl ?_; go_wp2_with (first | (refine wpList_load_row_g _ (by first | rfl | kernel_rfl) ⟨w7.heap.size, 0, none⟩ rfl csa agg_Cmd LA.out (blk_cells CA.out) ?_) | fail); refine ⟨rfl, ?_⟩
          refine wpX_quiet rfl (by kernel_rfl) rfl ?_; go_wp2_with (first | (refine wpList_load_row_g _ (by first | rfl | kernel_rfl) ⟨w7.heap.size, 0, none⟩ rfl csa agg_Cmd LA.out (blk_cells CA.out) ?_) | fail); refine ⟨rfl, ?_⟩
          refine wpX_actor rfl (by kernel_rfl) ?_; go_wp2_with fail
          refine (HAA.out _ MA.out.rep.any).mono ?_
          rintro e y ⟨rfl, hb⟩
          have HX := Lib.hid hb; clear hb
          have X := Lib.hid (MA.out.below HX.out); clear MA
          have MA := Lib.hid X.out; clear X
          have X := Lib.hid (MB.out.below HX.out); clear MB
          have MB := Lib.hid X.out; clear X
          have X := Lib.hid (CA.out.below HX.out); clear CA
          have CA := Lib.hid X.out; clear X
          have X := Lib.hid (CB.out.below HX.out); clear CB
          have CB := Lib.hid X.out; clear X
          have X := Lib.hid (B.out.trans (HX.out.mono B.out.size)); clear B
          have B := Lib.hid X.out; clear X
          go_wp2; refine ⟨Ext.of_below HX.out, ?_⟩
          clear HX
          iterate 3 (refine wpX_quiet rfl (by kernel_rfl) rfl ?_; go_wp2; refine ⟨rfl, ?_⟩)
          refine wpX_nil ?_; try simp only [List.drop_succ_cons, List.drop_zero]
          go_wp2
          go_ret
          exact ⟨ret_eq (by first | rfl | simp), B.out⟩
set_option maxRecDepth 100000 in
theorem FnCmds_lifted (os : Os) (started : os.Started) (H : Type) (enc : TypeId × Value → H) :
    ReturnsInHanded {} Try.checked os 4 .any (Rows.fnCmdsSpec.pre6 enc Try.prog Try.f4 Rows.fnCmdsRow.domain false) (Rows.fnCmdsSpec.post enc Try.prog Try.f4 false true false false) := by
  refine returnsInHanded_of_change (C := Try.checked) own started (by kernel_rfl) Try.func4
    (ChangeSpec.witness6 (enc := enc) (C := Try.checked) false ⟨#[], #[.slice none 0 0], []⟩ 8 (by kernel_rfl) (by kernel_rfl) (by kernel_rfl) (by kernel_rfl)) ?_
  intro W base args ds gs before hval0 hW _ _
  have hval : ∀ (j : Nat) t v, Try.f4.params[j]? = some t → args[j]? = some v → Value.okWide Try.prog W .any base t v := hval0
  have hW' := hW
  obtain ⟨p, q, hA0, hV, rfl, hfz, hnd⟩ := hW
  have hA : DataW.TrodAll enc Try.prog W 0 (fun _ => true) true Try.f4.params.toList args.toList ds p := hA0
  rw [Try.params4] at hA hval
  obtain ⟨v0, vs0, d0, ds0, p0, q0, hargs, rfl, rfl, h0, r0⟩ := trodAll_cons hA
  obtain ⟨rfl, rfl, rfl⟩ := trodAll_nil r0
  obtain rfl : args = #[v0] := Array.ext' hargs
  obtain ⟨xs, a0, len0, cap0, rfl, hn0, hrd⟩ := open_bytes (okWide_slice Try.underlying22 (hval 0 22 v0 rfl rfl)) h0
  refine (lFnCmds_all a0 len0 cap0 xs W hrd).mono fun e W' ⟨he, hb⟩ => ?_
  subst he
  refine ⟨_, rfl, law_post (tb := 4) laidOut (by kernel_rfl) rfl Try.underlying4 rfl ?_ hW' hb⟩
  intro ds hl
  rw [Try.params4] at hl
  match ds, hl with
  | [_], _ => rfl
theorem FnCmds_holds : Rows.FnCmdsSaid :=
  OpenClaim.holds_of_wide 4 Try.f4 rfl rfl rfl rfl rfl rfl rfl ⟨rfl, rfl, rfl, rfl, rfl⟩ rfl rfl rfl rfl rfl (by kernel_rfl) Try.func4 (by kernel_rfl)
    (of_decide_eq_true (by kernel_rfl)) (by unfold Func.isWrapper; first | (rw [if_pos (by decide +kernel)]; kernel_rfl) | (rw [if_neg (by decide +kernel)]; exact ⟨rfl, rfl⟩))
    (fun os started H enc _ => FnCmds_lifted os started H enc)
end Go.Proofs.Ytinacpjelephoaa
