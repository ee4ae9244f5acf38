/-
  The law on instances (FnInsts) holds for all codes. No condition.
-/
import Derived.Test.YtonaacdefidomaaGreatBK
import Derived.Test.YtonaacdefidomaaGreatBL
import Derived.Test.YtonaacdefidomaaGreatBI
import Derived.Test.YtonaacdefidomaaGreatBJ
import Derived.Test.YtonaacdefidomaaGreatBG
import Derived.Test.YtonaacdefidomaaGreatBH
import Derived.Test.YtonaacdefidomaaGreatBC
import Derived.Deep.CutBlock
import Derived.Deep.CutRange
namespace Go.Proofs.YtonaacdefidomaaGreat
open Go.RowKit Go.ChangeShapes Go.WideShapes Go.ChangeAt Go.Deep
theorem wf_u8 {x : Int} (h : (Lit.int .u8 x).wf = true) : 0 ≤ x ∧ x < 256 := by
  have h1 : IntKind.u8.min = 0 := rfl
  have h2 : IntKind.u8.max = 255 := rfl
  simp only [Lit.wf, Bool.and_eq_true, decide_eq_true_eq] at h
  omega
def byteOf : Value → UInt8
  | .int _ z => UInt8.ofNat z.toNat
  | _ => 0
theorem open_bytes {H : Type} {enc : TypeId × Value → H} {w : World} {base : Nat} {spare : Nat → Bool} {held : Bool} {v : Value} {d : DataW H} {ps : List MemPlace}
    (hv : ∃ A n c, v = .slice A n c) (h : DataW.Trod enc Tryz.prog w base spare held 22 v d ps) : ∃ (xs : List UInt8) (A : Option Addr) (n c : Nat), v = .slice A n c ∧ n ≤ 9223372036854775807 ∧ Reads w 1 A n (xs.map u8v) := by
  obtain ⟨A, n, c, rfl⟩ := hv
  obtain ⟨fuel, hf⟩ := h
  rcases open_slice1 Tryz.underlying22 (by kernel_rfl) hf with ⟨he, _⟩ | ⟨a, len, cap, m, n', V, D, Pl, he, _, hlc, hcm, hmm, _, hx⟩
  · simp [Value.cells] at he
    obtain ⟨rfl, rfl, rfl⟩ := he
    exact ⟨[], none, 0, 0, rfl, by omega, Reads.none_⟩
  · simp [Value.cells] at he
    obtain ⟨rfl, rfl, rfl⟩ := he
    have hlm : n ≤ m := by rw [hmm]; split <;> omega
    refine ⟨(List.range n).map fun i => byteOf (V i), some a, n, c, rfl, by simp only [maxLen] at hcm; omega, by simp, fun _ => ⟨a, rfl, fun j u hu => ?_⟩⟩
    have hj : j < n := by
      have := (List.getElem?_eq_some_iff.1 hu).1
      simpa using this
    obtain ⟨h1, h2⟩ := hx j (by omega)
    obtain ⟨z, hz, _, hwf⟩ := DataW.trod_int Tryz.underlying5 h2
    have hV : V j = .int .u8 z := by simpa using hz
    have hz2 := wf_u8 hwf
    rw [h1]
    simp only [List.map_map, List.getElem?_map, List.getElem?_range hj, Option.map_some, Function.comp_apply, Option.some.injEq] at hu
    rw [← hu, hV]
    simp only [byteOf, u8v]
    rw [ofNat_toNat (by omega), Int.toNat_of_nonneg hz2.1]
theorem big_any (A : Option Addr) (n c : Nat) (w : World) :
    Calls Tryz.prog 4 #[.slice A n c] w fun e w' => e = .returned (.bool (decide ((1048576 : Int) < (n : Int)))) ∧ w = w' := by
  go_enter Tryz.func4, Tryz.ntmps4
  go_wp2
  go_ret
  exact ⟨ret_eq rfl, rfl⟩
theorem hasB_deps {xs : List InstD} (h : instsOkB xs = true) (id : IdD) (c : CmdD) {j : Nat} (hj : j < xs.length) : hasB (fAttrsOf xs id c).2 xs[j].id = keepB id c xs[j] := by
  have h1 := deps_iff h id c (List.getElem_mem hj)
  rw [Bool.eq_iff_iff, ← h1]
  constructor
  · intro h2
    rcases Classical.em (xs[j].id ∈ (fAttrsOf xs id c).2) with h3 | h3
    · exact h3
    · rw [hasB_no (fun i hi e => h3 (by rw [← e]; exact List.getElem_mem hi))] at h2; cases h2
  · intro h2
    obtain ⟨i, hi, e⟩ := List.getElem_of_mem h2
    rw [← e]
    exact hasB_yes hi
theorem hasB_join {a b : List IdD} (ha : idsOkB a = true) (hb : idsOkB b = true) {j : Nat} (hj : j < a.length) : hasB (fJoinIds a b) a[j] = true := by
  obtain ⟨i, hi, e⟩ := List.getElem_of_mem (join_has ha hb (List.getElem_mem hj))
  rw [← e]
  exact hasB_yes hi
theorem cell_below {W W' : World} {a : Addr} {v : Value} (h : W.cell? a = some v) (hb : Below W.heap.size W W') : W'.cell? a = some v := by
  rw [World.cell?_of_block (hb.block _ (World.block_lt_of_cell? _ _ h))]
  exact h
def CellsAt (W : World) (a : Addr) (ci : List Value) : Prop := ∀ f v, ci[f]? = some v → W.cell? (a.add f) = some v
theorem CellsAt.below {W W' : World} {a : Addr} {ci : List Value} (h : CellsAt W a ci) (hb : Below W.heap.size W W') : CellsAt W' a ci := fun f v hv => cell_below (h f v hv) hb
theorem CellsAt.drew {W : World} {a : Addr} {ci : List Value} (h : CellsAt W a ci) : CellsAt W.drew a ci := h
def CellIs (W : World) (a : Addr) (v : Value) : Prop := W.cell? a = some v
theorem CellIs.below {W W' : World} {a : Addr} {v : Value} (h : CellIs W a v) (hb : Below W.heap.size W W') : CellIs W' a v := cell_below h hb
theorem CellIs.drew {W : World} {a : Addr} {v : Value} (h : CellIs W a v) : CellIs W.drew a v := h
theorem keep_n1 {id : IdD} {c : CmdD} {x : InstD} (h : x.id = id) : keepB id c x = false := by simp [keepB, h]
theorem keep_n2 {id : IdD} {c : CmdD} {x : InstD} (h : x.status = 0) : keepB id c x = false := by simp [keepB, h]
theorem keep_y {id : IdD} {c : CmdD} {x : InstD} (h1 : x.id ≠ id) (h2 : x.status ≠ 0) : keepB id c x = clashB c x.cmd := by simp [keepB, h1, h2]
theorem put_nil {l : List InstD} {x : InstD} (h : instsOkB l = false) : fInstPut l x = [] := if_neg (by simp [h])
theorem put_wt6 {l : List InstD} {x : InstD} (hl : l.length ≤ 6) (h : ∀ y ∈ l, y.c.wt ≤ 301) (hx : x.c.wt ≤ 301) : (fInstPut l x).length + (cat InstD.c (fInstPut l x)).wt ≤ 5000 := by
  have h0 := cat_wt_max h
  unfold fInstPut
  split
  · split
    · have h1 := putL x l
      have h2 := cat_wt_max (put_wtm h hx)
      have h3 := Nat.mul_le_mul_left 301 (Nat.le_trans h1 (Nat.succ_le_succ hl))
      omega
    · have h3 := Nat.mul_le_mul_left 301 hl
      omega
  · simp [cat, Cs.wt]
theorem at_wt {l : List InstD} (id : IdD) (h : ∀ y ∈ l, y.c.wt ≤ 5000) : (fInstAt l id).c.wt ≤ 5000 := by
  unfold fInstAt
  cases hf : l.find? (fun y => decide (y.id = id)) with
  | none => exact Nat.zero_le _
  | some z => exact h z (List.mem_of_find?_eq_some hf)
theorem join_wt (a b : List IdD) : (cat IdD.c (fJoinIds a b)).wt = 0 := ids_wt _
set_option maxRecDepth 100000 in
set_option maxHeartbeats 16000000 in
theorem lFnInsts_all (A0 : Option Addr) (n0 c0 : Nat) (xs : List UInt8) (w : World) (h0 : Reads w 1 A0 n0 (xs.map u8v)) :
    Calls Tryz.prog 3 #[.slice A0 n0 c0] w fun e w' => e = .returned (.bool true) ∧ Below w.heap.size w w' := by
  by_cases hl : n0 ≤ 1048576
  rotate_left
  · have hbig : decide ((1048576 : Int) < (n0 : Int)) = true := by simp; omega
    go_enter Tryz.func3, Tryz.ntmps3
    go_wp2_with fail
    refine (big_any A0 n0 c0 _).mono ?_
    rintro e _ ⟨rfl, rfl⟩
    rw [hbig]
    go_wp2_with fail
    go_ret
    exact ⟨ret_eq (by first | rfl | simp), Below.refl _ _⟩
  have hbig : decide ((1048576 : Int) < (n0 : Int)) = false := by simp; omega
  have HB := Lib.hid h0; clear h0
  have HDA := Lib.hid (fun W h => drawAttrsOf_x A0 n0 c0 xs W h hl)
  have HDP := Lib.hid (fun W h => drawInstPut_x A0 n0 c0 xs W h hl)
  have HDJ := Lib.hid (fun W h => drawJoinIds_x A0 n0 c0 xs W h hl)
  go_enter Tryz.func3, Tryz.ntmps3
  go_wp2_with fail
  refine (big_any A0 n0 c0 _).mono ?_
  rintro e _ ⟨rfl, rfl⟩
  rw [hbig]
  go_wp2_with fail
  refine (HDA.out _ HB.out).mono ?_
  rintro e w1 ⟨l, ir, iq, d, cs, A, q, k, rfl, hq, hq6, hwt, hdw, hrl, hrc, hb⟩
  have B := Lib.hid hb; clear hb HDA
  have HQ := Lib.hid hq; clear hq
  have hlw : q + (cat InstD.c l).wt ≤ 1048576 := by have h1 := cat_wt_max hwt; have h2 := HQ.out; have h3 := Nat.mul_le_mul_left 301 (show l.length ≤ 6 by omega); omega
  have HLW := Lib.hid hlw; clear hlw hwt
  have L1 := Lib.hid (show cs.length = 8 from hrc.length.trans (CmdD.width _))
  have RL := Lib.hid hrl; clear hrl
  have RC := Lib.hid hrc; clear hrc
  obtain ⟨b4, hb4⟩ : ∃ x, x = w1.heap.size := ⟨_, rfl⟩
  obtain ⟨b5, hb5⟩ : ∃ x, x = w1.heap.size + 1 := ⟨_, rfl⟩
  have H4 := Lib.hid hb4; clear hb4
  have H5 := Lib.hid hb5; clear hb5
  go_wp2_with (first
    | ((with_reducible show wpList _ _ _ ({ dst := _, op := Op.store 29 _ _, type := _, pos := _, after := _, guard := _ } :: _) _ _); go_must (refine wpList_store_row _ (w1.heap.size + 1) 29 0 cs [] [.int .i64 0, .int .i64 0, .int .i64 0, .string (bs []), .string (bs []), .string (bs []), .int .i64 0, .slice none 0 0] [] _ rfl rfl (L1.out ▸ agg_Cmd) YB.out rfl rfl L1.out.symm RC.out.one ?_; intro v3 h3 g3; have IB := Lib.hid (show Blk v3 w1.heap.size 26 [.int .i64 ir, .int .i64 iq].toArray from Blk.grown (by have h1 := IB2.out; simpa using h1) g3 (by omega)); have CB := Lib.hid (show Blk v3 (w1.heap.size + 1) 29 cs.toArray from by simpa using h3); have G3 := Lib.hid g3; clear h3 g3))
    | ((with_reducible show wpList _ _ _ ({ dst := _, op := Op.load 26 _, type := _, pos := _, after := _, guard := _ } :: _) _ _); refine wpList_load_row _ ⟨w1.heap.size, 0, none⟩ rfl [.int .i64 ir, .int .i64 iq] agg_Id rfl (blk_cells IB.out) ?_)
    | ((with_reducible show wpList _ _ _ ({ dst := _, op := Op.load 29 _, type := _, pos := _, after := _, guard := _ } :: _) _ _); refine wpList_load_row _ ⟨w1.heap.size + 1, 0, none⟩ rfl cs agg_Cmd L1.out (blk_cells CB.out) ?_)
    | ((with_reducible show wpList _ _ _ ({ dst := _, op := Op.store 26 _ _, type := _, pos := _, after := _, guard := _ } :: _) _ _); go_must (refine wpList_store_row _ w1.heap.size 26 0 [.int .i64 ir, .int .i64 iq] [] [.int .i64 0, .int .i64 0] [] _ rfl rfl agg_Id ((blk_new w1 _ _).alloc _) rfl rfl rfl (by simp [Value.oneCell']) ?_; intro v2 h2 g2; have YB := Lib.hid (show Blk v2 (w1.heap.size + 1) 29 [.int .i64 0, .int .i64 0, .int .i64 0, .string (bs []), .string (bs []), .string (bs []), .int .i64 0, .slice none 0 0].toArray from Blk.grown (blk_newAt' _ _ _ _ _ (by simp) rfl) g2 (by omega)); have IB2 := Lib.hid h2; have G2 := Lib.hid g2; clear h2 g2))
    | fail)
  have HX := Lib.hid (show Below w1.heap.size w1 v3 from ((((Below.refl _ _).alloc (Nat.le_refl _) _).alloc (by simp) _).grown G2.out (by simp; omega) (fun k hk => by injection hk with hk; omega)).grown G3.out (by have := G2.out.size; simp at this; omega) (fun k hk => by injection hk with hk; omega))
  clear IB2 G2 G3 YB
  have X := Lib.hid (RL.out.below HX.out); clear RL
  have RL := Lib.hid X.out; clear X
  have X := Lib.hid (RC.out.below HX.out); clear RC
  have RC := Lib.hid X.out; clear X
  have X := Lib.hid (B.out.trans (HX.out.mono B.out.size)); clear B
  have B := Lib.hid X.out; clear X
  clear HX
  rw [← H5.out, ← H4.out]
  rw [← H4.out] at IB
  rw [← H5.out] at CB
  clear H4 H5
  obtain ⟨fa, hfa⟩ : ∃ f, f = fAttrsOf l ⟨ir, iq⟩ d := ⟨_, rfl⟩
  have hba := bAttrsOf l ⟨ir, iq⟩ d (by have := HQ.out; have := HLW.out; omega) (Nat.zero_le _) (by omega)
  rw [← hfa] at hba
  have hda : fa.2.length ≤ 6 := by rw [hfa]; unfold fAttrsOf; split; (· have := deps_len ⟨ir, iq⟩ d l; have := HQ.out; simp only; omega); (· simp)
  clear hba
  have HIA := Lib.hid (fun W h1 h2 => iAttrsOf_any l ⟨ir, iq⟩ d A q k [.int .i64 ir, .int .i64 iq] cs W HQ.out HLW.out (Nat.zero_le _) (by omega) h1 (IdD.shut (x := ⟨ir, iq⟩)) h2)
  have HSA := Lib.hid (fun W h1 h2 => sAttrsOf_any l ⟨ir, iq⟩ d A q k [.int .i64 ir, .int .i64 iq] cs W HQ.out HLW.out (Nat.zero_le _) (by omega) h1 (IdD.shut (x := ⟨ir, iq⟩)) h2)
  rw [← hfa] at HIA HSA
  have HFA := Lib.hid hfa; clear hfa
  obtain ⟨sq, dps⟩ := fa
  simp only [] at hda HIA HSA
  refine (HIA.out _ RL.out RC.out).mono ?_
  rintro e w4 ⟨A1, m1, c1, rfl, hm1, hmi, hb⟩
  have HX := Lib.hid hb; clear hb
  have X := Lib.hid (RL.out.below HX.out); clear RL
  have RL := Lib.hid X.out; clear X
  have X := Lib.hid (RC.out.below HX.out); clear RC
  have RC := Lib.hid X.out; clear X
  have X := Lib.hid (IB.out.below HX.out); clear IB
  have IB := Lib.hid X.out; clear X
  have X := Lib.hid (CB.out.below HX.out); clear CB
  have CB := Lib.hid X.out; clear X
  have X := Lib.hid (B.out.trans (HX.out.mono B.out.size)); clear B
  have B := Lib.hid X.out; clear X
  clear HX
  have RD := Lib.hid hmi.rep.any; clear hmi HIA
  have HM1 := Lib.hid hm1; clear hm1
  go_wp2_with (first | ((with_reducible show wpList _ _ _ ({ dst := _, op := Op.load 26 _, type := _, pos := _, after := _, guard := _ } :: _) _ _); refine wpList_load_row _ ⟨b4, 0, none⟩ rfl [.int .i64 ir, .int .i64 iq] agg_Id rfl (blk_cells IB.out) ?_) | ((with_reducible show wpList _ _ _ ({ dst := _, op := Op.load 29 _, type := _, pos := _, after := _, guard := _ } :: _) _ _); refine wpList_load_row _ ⟨b5, 0, none⟩ rfl cs agg_Cmd L1.out (blk_cells CB.out) ?_) | fail)
  refine (HSA.out _ RL.out RC.out).mono ?_
  rintro e w5 ⟨A2, m2, c2, rfl, hm2, hmi, hb⟩
  have HX := Lib.hid hb; clear hb
  have X := Lib.hid (RL.out.below HX.out); clear RL
  have RL := Lib.hid X.out; clear X
  have X := Lib.hid (RC.out.below HX.out); clear RC
  have RC := Lib.hid X.out; clear X
  have X := Lib.hid (IB.out.below HX.out); clear IB
  have IB := Lib.hid X.out; clear X
  have X := Lib.hid (CB.out.below HX.out); clear CB
  have CB := Lib.hid X.out; clear X
  have X := Lib.hid (RD.out.below HX.out); clear RD
  have RD := Lib.hid X.out; clear X
  have X := Lib.hid (B.out.trans (HX.out.mono B.out.size)); clear B
  have B := Lib.hid X.out; clear X
  clear HX
  have RD2 := Lib.hid hmi.rep.any; clear hmi HSA
  have HM2 := Lib.hid hm2; clear hm2
  go_wp2_with fail
  refine (sameIds_any dps dps A1 A2 m1 m2 c1 c2 _ HM1.out HM2.out (by have := HM1.out; omega) (by have := HM2.out; omega) RD.out RD2.out).mono ?_
  rintro e w6 ⟨rfl, hb⟩
  have HX := Lib.hid hb; clear hb
  have X := Lib.hid (RL.out.below HX.out); clear RL
  have RL := Lib.hid X.out; clear X
  have X := Lib.hid (RC.out.below HX.out); clear RC
  have RC := Lib.hid X.out; clear X
  have X := Lib.hid (IB.out.below HX.out); clear IB
  have IB := Lib.hid X.out; clear X
  have X := Lib.hid (CB.out.below HX.out); clear CB
  have CB := Lib.hid X.out; clear X
  have X := Lib.hid (RD.out.below HX.out); clear RD
  have RD := Lib.hid X.out; clear X
  have X := Lib.hid (RD2.out.below HX.out); clear RD2
  have RD2 := Lib.hid X.out; clear X
  have X := Lib.hid (B.out.trans (HX.out.mono B.out.size)); clear B
  have B := Lib.hid X.out; clear X
  clear HX
  clear RD2 HM2
  rw [decide_eq_true (rfl : dps = dps)]
  go_upto_block 0 with fail
  go_cut [2, 10, 11] from 50 to 104 (fun s2 s10 s11 wx => Rep anyB wx (.sl 38 16 q (cat InstD.c l) .nil) [.slice A q k] ∧ Rep anyB wx d.c cs ∧ Blk wx b4 26 [.int .i64 ir, .int .i64 iq].toArray ∧ Blk wx b5 29 cs.toArray ∧ Rep anyB wx (.sl 26 2 m1 (cat IdD.c dps) .nil) [.slice A1 m1 c1] ∧ Below w.heap.size w wx)
  case first =>
    go_wp2_with fail
    go_loopw [10] (fun ii wr => ∃ j : Nat, j ≤ q ∧ ii = .int .i64 (j : Int) ∧ Rep anyB wr (.sl 38 16 q (cat InstD.c l) .nil) [.slice A q k] ∧ Rep anyB wr d.c cs ∧ Blk wr b4 26 [.int .i64 ir, .int .i64 iq].toArray ∧ Blk wr b5 29 cs.toArray ∧ Rep anyB wr (.sl 26 2 m1 (cat IdD.c dps) .nil) [.slice A1 m1 c1] ∧ Below w.heap.size w wr) (fun ii _ => q - (intOf ii).toNat)
    case atStart => exact ⟨0, Nat.zero_le _, rfl, RL.out, RC.out, IB.out, CB.out, RD.out, B.out⟩
    case round =>
      obtain ⟨j, hj, rfl, hRL, hRC, hIB, hCB, hRD, hB⟩ := hrel
      clear RL
      have RL := Lib.hid hRL; clear hRL
      clear RC
      have RC := Lib.hid hRC; clear hRC
      clear IB
      have IB := Lib.hid hIB; clear hIB
      clear CB
      have CB := Lib.hid hCB; clear hCB
      clear RD
      have RD := Lib.hid hRD; clear hRD
      clear B
      have B := Lib.hid hB; clear hB
      by_cases hlt : j < q
      · have hd1 : (j : Int) < (q : Int) := by omega
        have hjx : j < l.length := by have := HQ.out; omega
        go_wp2_with fail
        refine (sInstsOk_any l A q k _ HQ.out HLW.out RL.out).mono ?_
        rintro e w7 ⟨rfl, hb⟩
        have HX := Lib.hid hb; clear hb
        have X := Lib.hid (RL.out.below HX.out); clear RL
        have RL := Lib.hid X.out; clear X
        have X := Lib.hid (RC.out.below HX.out); clear RC
        have RC := Lib.hid X.out; clear X
        have X := Lib.hid (IB.out.below HX.out); clear IB
        have IB := Lib.hid X.out; clear X
        have X := Lib.hid (CB.out.below HX.out); clear CB
        have CB := Lib.hid X.out; clear X
        have X := Lib.hid (RD.out.below HX.out); clear RD
        have RD := Lib.hid X.out; clear X
        have X := Lib.hid (B.out.trans (HX.out.mono B.out.size)); clear B
        have B := Lib.hid X.out; clear X
        clear HX
        cases hok : instsOkB l with
        | true =>
          have HK := Lib.hid (hasB_deps hok ⟨ir, iq⟩ d hjx)
          have HSQ := Lib.hid (fun h => seq_gt hok ⟨ir, iq⟩ d (List.getElem_mem hjx) h)
          rw [← HFA.out] at HK HSQ
          clear hok
          obtain ⟨ad, ci, rfl, -, -, hrc, hl, hc⟩ := RL.out.elem InstD.width j hjx HQ.out
          have hwx : (l[j].cmd.c).wt ≤ 1048576 := by have h1 := cat_wt_le (f := InstD.c) (List.getElem_mem hjx); have h2 := HLW.out; have h3 := InstD.cmd_wt l[j]; omega
          have hcid := id_cells hrc hc
          obtain ⟨cmx, hcl, hcr, hcc⟩ := cmd_cells hrc hc
          obtain ⟨Ax, kx, Ay, ky, rfl, -, -⟩ := InstD.open hrc
          have h4 : w7.cell? ⟨(ad.add (j * 16)).block, (ad.add (j * 16)).off + 4, none⟩ = some (.int .i64 l[j].status) := hc 4 _ rfl
          have h13 : w7.cell? ⟨(ad.add (j * 16)).block, (ad.add (j * 16)).off + 13, none⟩ = some (.int .i64 l[j].seq) := hc 13 _ rfl
          have hn1 : l[j].id = ⟨ir, iq⟩ → keepB ⟨ir, iq⟩ d l[j] = false := fun h => keep_n1 h
          have hn2 : l[j].status = 0 → keepB ⟨ir, iq⟩ d l[j] = false := fun h => keep_n2 h
          have hny : l[j].id ≠ ⟨ir, iq⟩ → l[j].status ≠ 0 → keepB ⟨ir, iq⟩ d l[j] = clashB d l[j].cmd := fun h1 h2 => keep_y h1 h2
          clear hc hrc hl
          generalize l[j] = z at *
          generalize keepB ⟨ir, iq⟩ d z = kp at *
          obtain ⟨⟨zr, zs⟩, zb, zv, zst, zc, zq, zd, zm⟩ := z
          simp only [] at hcid hcr h4 h13 hwx hn1 hn2 hny HK HSQ
          have KN1 := Lib.hid hn1; clear hn1
          have KN2 := Lib.hid hn2; clear hn2
          have KY := Lib.hid hny; clear hny
          have CI := Lib.hid (show CellsAt w7 (ad.add (j * 16)) [.int .i64 zr, .int .i64 zs] from hcid); clear hcid
          have CC := Lib.hid (show CellsAt w7 ⟨(ad.add (j * 16)).block, (ad.add (j * 16)).off + 5, none⟩ cmx from hcc); clear hcc
          have CR := Lib.hid (show Rep anyB w7 zc.c cmx from hcr.any); clear hcr
          have C4 := Lib.hid (show CellIs w7 ⟨(ad.add (j * 16)).block, (ad.add (j * 16)).off + 4, none⟩ (.int .i64 zst) from h4); clear h4
          have C13 := Lib.hid (show CellIs w7 ⟨(ad.add (j * 16)).block, (ad.add (j * 16)).off + 13, none⟩ (.int .i64 zq) from h13); clear h13
          have HWX := Lib.hid hwx; clear hwx
          by_cases e1 : zr = ir ∧ zs = iq
          · obtain ⟨rfl, rfl⟩ := e1
            have HH := Lib.hid (show hasB dps ⟨zr, zs⟩ = false from HK.out.trans (KN1.out rfl))
            go_wp2
            refine wp_region_g 25 (.one 0 (.one 1 (.one 2 (.one 3 (.one 4 (.one 5 (.act 6 (.one 7 (.one 8 (.one 9 (.one 10 (.one 11 (.one 12 (.one 13 (.one 14 (.one 15 (.one 16 (.one 17 (.one 18 (.one 19 (.one 20 (.one 21 (.one 22 (.one 23 (.one 24 .leaf))))))))))))))))))))))))) (by kernel_rfl) (by kernel_rfl) ?_
            have X := Lib.hid (show Below w7.heap.size w7 w7.drew from (Below.refl _ _).drew)
            have h4 : w7.drew.cell? ⟨(ad.add (j * 16)).block, (ad.add (j * 16)).off + 4, none⟩ = some (.int .i64 zst) := C4.out
            clear X
            have X := Lib.hid (RL.out.drew); clear RL
            have RL := Lib.hid X.out; clear X
            have X := Lib.hid (RC.out.drew); clear RC
            have RC := Lib.hid X.out; clear X
            have X := Lib.hid (IB.out.drew); clear IB
            have IB := Lib.hid X.out; clear X
            have X := Lib.hid (CB.out.drew); clear CB
            have CB := Lib.hid X.out; clear X
            have X := Lib.hid (RD.out.drew); clear RD
            have RD := Lib.hid X.out; clear X
            have X := Lib.hid (CI.out.drew); clear CI
            have CI := Lib.hid X.out; clear X
            have X := Lib.hid (CC.out.drew); clear CC
            have CC := Lib.hid X.out; clear X
            have X := Lib.hid (CR.out.drew); clear CR
            have CR := Lib.hid X.out; clear X
            have X := Lib.hid (C4.out.drew); clear C4
            have C4 := Lib.hid X.out; clear X
            have X := Lib.hid (C13.out.drew); clear C13
            have C13 := Lib.hid X.out; clear X
            have X := Lib.hid (B.out.drew); clear B
            have B := Lib.hid X.out; clear X
            generalize w7.drew = w8 at RL RC IB CB RD CI CC CR C4 C13 B h4 ⊢
            iterate 4 (refine wpG_quiet rfl (by kernel_rfl) rfl ?_; go_wp2; refine ⟨rfl, ?_⟩)
            refine wpG_quiet rfl (by kernel_rfl) rfl ?_; go_wp2_with (first | (refine wpList_load_row _ (ad.add (j * 16)) rfl [.int .i64 _, .int .i64 _] agg_Id rfl CI.out ?_) | fail); refine ⟨rfl, ?_⟩
            refine wpG_quiet rfl (by kernel_rfl) rfl ?_; go_wp2_with (first | (refine wpList_load_row _ ⟨b4, 0, none⟩ rfl [.int .i64 _, .int .i64 _] agg_Id rfl (blk_cells IB.out) ?_) | fail); refine ⟨rfl, ?_⟩
            refine wpG_act rfl ?_; go_wp2
            refine ⟨Ext.refl _, ?_⟩
            iterate 1 (refine wpG_quiet rfl (by kernel_rfl) rfl ?_; go_wp2; refine ⟨rfl, ?_⟩)
            iterate 6 (refine wpG_skip rfl rfl (by kernel_rfl) ?_; simp only [List.setIfInBounds_toArray, List.set_cons_succ, List.set_cons_zero])
            iterate 2 (refine wpG_quiet rfl (by kernel_rfl) rfl ?_; go_wp2; refine ⟨rfl, ?_⟩)
            iterate 7 (refine wpG_skip rfl rfl (by kernel_rfl) ?_; simp only [List.setIfInBounds_toArray, List.set_cons_succ, List.set_cons_zero])
            iterate 2 (refine wpG_quiet rfl (by kernel_rfl) rfl ?_; go_wp2; refine ⟨rfl, ?_⟩)
            refine wpG_nil ?_; try simp only [List.drop_succ_cons, List.drop_zero]
            try clear e3b
            try clear h4
            go_wp2_with (first | ((with_reducible show wpList _ _ _ ({ dst := _, op := Op.load 26 _, type := _, pos := _, after := _, guard := _ } :: _) _ _); refine wpList_load_row _ (ad.add (j * 16)) rfl [.int .i64 _, .int .i64 _] agg_Id rfl CI.out ?_) | fail)
            refine (hasId_any dps ⟨zr, zs⟩ A1 m1 c1 [.int .i64 zr, .int .i64 zs] _ HM1.out (by have := HM1.out; omega) RD.out (IdD.shut (x := ⟨zr, zs⟩))).mono ?_
            rintro e w9 ⟨rfl, hb⟩
            have HX := Lib.hid hb; clear hb
            have X := Lib.hid (RL.out.below HX.out); clear RL
            have RL := Lib.hid X.out; clear X
            have X := Lib.hid (RC.out.below HX.out); clear RC
            have RC := Lib.hid X.out; clear X
            have X := Lib.hid (IB.out.below HX.out); clear IB
            have IB := Lib.hid X.out; clear X
            have X := Lib.hid (CB.out.below HX.out); clear CB
            have CB := Lib.hid X.out; clear X
            have X := Lib.hid (RD.out.below HX.out); clear RD
            have RD := Lib.hid X.out; clear X
            have X := Lib.hid (CI.out.below HX.out); clear CI
            have CI := Lib.hid X.out; clear X
            have X := Lib.hid (CC.out.below HX.out); clear CC
            have CC := Lib.hid X.out; clear X
            have X := Lib.hid (CR.out.below HX.out); clear CR
            have CR := Lib.hid X.out; clear X
            have X := Lib.hid (C4.out.below HX.out); clear C4
            have C4 := Lib.hid X.out; clear X
            have X := Lib.hid (C13.out.below HX.out); clear C13
            have C13 := Lib.hid X.out; clear X
            have X := Lib.hid (B.out.trans (HX.out.mono B.out.size)); clear B
            have B := Lib.hid X.out; clear X
            clear HX
            rw [HH.out]
            go_wp2
            exact ⟨⟨j + 1, by omega, by go_num, RL.out, RC.out, IB.out, CB.out, RD.out, B.out⟩, by simp only [intOf]; omega⟩
          by_cases hzr : zr = ir
          rotate_left
          · have hne : ¬ (IdD.mk zr zs = IdD.mk ir iq) := fun h => hzr (by injection h)
            clear e1
            by_cases e3 : zst = 0
            · have HH := Lib.hid (show hasB dps ⟨zr, zs⟩ = false from HK.out.trans (KN2.out e3))
              have e3b : (zst != 0) = false := by simpa using e3
              have HNE := Lib.hid hne; clear hne e3
              go_wp2
              refine wp_region_g 25 (.one 0 (.one 1 (.one 2 (.one 3 (.one 4 (.one 5 (.act 6 (.one 7 (.one 8 (.one 9 (.one 10 (.one 11 (.one 12 (.one 13 (.one 14 (.one 15 (.one 16 (.one 17 (.one 18 (.one 19 (.one 20 (.one 21 (.one 22 (.one 23 (.one 24 .leaf))))))))))))))))))))))))) (by kernel_rfl) (by kernel_rfl) ?_
              have X := Lib.hid (show Below w7.heap.size w7 w7.drew from (Below.refl _ _).drew)
              have h4 : w7.drew.cell? ⟨(ad.add (j * 16)).block, (ad.add (j * 16)).off + 4, none⟩ = some (.int .i64 zst) := C4.out
              clear X
              have X := Lib.hid (RL.out.drew); clear RL
              have RL := Lib.hid X.out; clear X
              have X := Lib.hid (RC.out.drew); clear RC
              have RC := Lib.hid X.out; clear X
              have X := Lib.hid (IB.out.drew); clear IB
              have IB := Lib.hid X.out; clear X
              have X := Lib.hid (CB.out.drew); clear CB
              have CB := Lib.hid X.out; clear X
              have X := Lib.hid (RD.out.drew); clear RD
              have RD := Lib.hid X.out; clear X
              have X := Lib.hid (CI.out.drew); clear CI
              have CI := Lib.hid X.out; clear X
              have X := Lib.hid (CC.out.drew); clear CC
              have CC := Lib.hid X.out; clear X
              have X := Lib.hid (CR.out.drew); clear CR
              have CR := Lib.hid X.out; clear X
              have X := Lib.hid (C4.out.drew); clear C4
              have C4 := Lib.hid X.out; clear X
              have X := Lib.hid (C13.out.drew); clear C13
              have C13 := Lib.hid X.out; clear X
              have X := Lib.hid (B.out.drew); clear B
              have B := Lib.hid X.out; clear X
              generalize w7.drew = w8 at RL RC IB CB RD CI CC CR C4 C13 B h4 ⊢
              iterate 4 (refine wpG_quiet rfl (by kernel_rfl) rfl ?_; go_wp2; refine ⟨rfl, ?_⟩)
              refine wpG_quiet rfl (by kernel_rfl) rfl ?_; go_wp2_with (first | (refine wpList_load_row _ (ad.add (j * 16)) rfl [.int .i64 _, .int .i64 _] agg_Id rfl CI.out ?_) | fail); refine ⟨rfl, ?_⟩
              refine wpG_quiet rfl (by kernel_rfl) rfl ?_; go_wp2_with (first | (refine wpList_load_row _ ⟨b4, 0, none⟩ rfl [.int .i64 _, .int .i64 _] agg_Id rfl (blk_cells IB.out) ?_) | fail); refine ⟨rfl, ?_⟩
              refine wpG_act rfl ?_; go_wp2
              refine ⟨Ext.refl _, ?_⟩
              have HZZ := Lib.hid hzr; clear hzr
              iterate 1 (refine wpG_quiet rfl (by kernel_rfl) rfl ?_; go_wp2; refine ⟨rfl, ?_⟩)
              iterate 6 (refine wpG_quiet rfl (by kernel_rfl) rfl ?_; go_wp2; refine ⟨rfl, ?_⟩)
              iterate 2 (refine wpG_quiet rfl (by kernel_rfl) rfl ?_; go_wp2; refine ⟨rfl, ?_⟩)
              iterate 7 (refine wpG_skip rfl rfl (by kernel_rfl) ?_; simp only [List.setIfInBounds_toArray, List.set_cons_succ, List.set_cons_zero])
              iterate 2 (refine wpG_quiet rfl (by kernel_rfl) rfl ?_; go_wp2; refine ⟨rfl, ?_⟩)
              refine wpG_nil ?_; try simp only [List.drop_succ_cons, List.drop_zero]
              try clear e3b
              try clear h4
              go_wp2_with (first | ((with_reducible show wpList _ _ _ ({ dst := _, op := Op.load 26 _, type := _, pos := _, after := _, guard := _ } :: _) _ _); refine wpList_load_row _ (ad.add (j * 16)) rfl [.int .i64 _, .int .i64 _] agg_Id rfl CI.out ?_) | fail)
              refine (hasId_any dps ⟨zr, zs⟩ A1 m1 c1 [.int .i64 zr, .int .i64 zs] _ HM1.out (by have := HM1.out; omega) RD.out (IdD.shut (x := ⟨zr, zs⟩))).mono ?_
              rintro e w9 ⟨rfl, hb⟩
              have HX := Lib.hid hb; clear hb
              have X := Lib.hid (RL.out.below HX.out); clear RL
              have RL := Lib.hid X.out; clear X
              have X := Lib.hid (RC.out.below HX.out); clear RC
              have RC := Lib.hid X.out; clear X
              have X := Lib.hid (IB.out.below HX.out); clear IB
              have IB := Lib.hid X.out; clear X
              have X := Lib.hid (CB.out.below HX.out); clear CB
              have CB := Lib.hid X.out; clear X
              have X := Lib.hid (RD.out.below HX.out); clear RD
              have RD := Lib.hid X.out; clear X
              have X := Lib.hid (CI.out.below HX.out); clear CI
              have CI := Lib.hid X.out; clear X
              have X := Lib.hid (CC.out.below HX.out); clear CC
              have CC := Lib.hid X.out; clear X
              have X := Lib.hid (CR.out.below HX.out); clear CR
              have CR := Lib.hid X.out; clear X
              have X := Lib.hid (C4.out.below HX.out); clear C4
              have C4 := Lib.hid X.out; clear X
              have X := Lib.hid (C13.out.below HX.out); clear C13
              have C13 := Lib.hid X.out; clear X
              have X := Lib.hid (B.out.trans (HX.out.mono B.out.size)); clear B
              have B := Lib.hid X.out; clear X
              clear HX
              rw [HH.out]
              go_wp2
              exact ⟨⟨j + 1, by omega, by go_num, RL.out, RC.out, IB.out, CB.out, RD.out, B.out⟩, by simp only [intOf]; omega⟩
            · have e3b : (zst != 0) = true := by simpa using e3
              have HKC := Lib.hid (HK.out.trans (KY.out hne e3))
              have HKP := Lib.hid (KY.out hne e3)
              have HNE := Lib.hid hne; clear hne e3
              cases hcl2 : clashB d zc with
              | false =>
                have HH := Lib.hid (show hasB dps ⟨zr, zs⟩ = false from HKC.out.trans hcl2)
                have HCL2 := Lib.hid hcl2; clear hcl2
                go_wp2
                refine wp_region_g 25 (.one 0 (.one 1 (.one 2 (.one 3 (.one 4 (.one 5 (.act 6 (.one 7 (.one 8 (.one 9 (.one 10 (.one 11 (.one 12 (.one 13 (.one 14 (.one 15 (.one 16 (.one 17 (.one 18 (.one 19 (.one 20 (.one 21 (.one 22 (.one 23 (.one 24 .leaf))))))))))))))))))))))))) (by kernel_rfl) (by kernel_rfl) ?_
                have X := Lib.hid (show Below w7.heap.size w7 w7.drew from (Below.refl _ _).drew)
                have h4 : w7.drew.cell? ⟨(ad.add (j * 16)).block, (ad.add (j * 16)).off + 4, none⟩ = some (.int .i64 zst) := C4.out
                clear X
                have X := Lib.hid (RL.out.drew); clear RL
                have RL := Lib.hid X.out; clear X
                have X := Lib.hid (RC.out.drew); clear RC
                have RC := Lib.hid X.out; clear X
                have X := Lib.hid (IB.out.drew); clear IB
                have IB := Lib.hid X.out; clear X
                have X := Lib.hid (CB.out.drew); clear CB
                have CB := Lib.hid X.out; clear X
                have X := Lib.hid (RD.out.drew); clear RD
                have RD := Lib.hid X.out; clear X
                have X := Lib.hid (CI.out.drew); clear CI
                have CI := Lib.hid X.out; clear X
                have X := Lib.hid (CC.out.drew); clear CC
                have CC := Lib.hid X.out; clear X
                have X := Lib.hid (CR.out.drew); clear CR
                have CR := Lib.hid X.out; clear X
                have X := Lib.hid (C4.out.drew); clear C4
                have C4 := Lib.hid X.out; clear X
                have X := Lib.hid (C13.out.drew); clear C13
                have C13 := Lib.hid X.out; clear X
                have X := Lib.hid (B.out.drew); clear B
                have B := Lib.hid X.out; clear X
                generalize w7.drew = w8 at RL RC IB CB RD CI CC CR C4 C13 B h4 ⊢
                iterate 4 (refine wpG_quiet rfl (by kernel_rfl) rfl ?_; go_wp2; refine ⟨rfl, ?_⟩)
                refine wpG_quiet rfl (by kernel_rfl) rfl ?_; go_wp2_with (first | (refine wpList_load_row _ (ad.add (j * 16)) rfl [.int .i64 _, .int .i64 _] agg_Id rfl CI.out ?_) | fail); refine ⟨rfl, ?_⟩
                refine wpG_quiet rfl (by kernel_rfl) rfl ?_; go_wp2_with (first | (refine wpList_load_row _ ⟨b4, 0, none⟩ rfl [.int .i64 _, .int .i64 _] agg_Id rfl (blk_cells IB.out) ?_) | fail); refine ⟨rfl, ?_⟩
                refine wpG_act rfl ?_; go_wp2
                refine ⟨Ext.refl _, ?_⟩
                have HZZ := Lib.hid hzr; clear hzr
                iterate 1 (refine wpG_quiet rfl (by kernel_rfl) rfl ?_; go_wp2; refine ⟨rfl, ?_⟩)
                iterate 6 (refine wpG_quiet rfl (by kernel_rfl) rfl ?_; go_wp2; refine ⟨rfl, ?_⟩)
                iterate 2 (refine wpG_quiet rfl (by kernel_rfl) rfl ?_; go_wp2; refine ⟨rfl, ?_⟩)
                refine wpG_quiet rfl (by kernel_rfl) rfl ?_; go_wp2_with (first | (refine wpList_load_row_g _ (by first | rfl | kernel_rfl) ⟨b5, 0, none⟩ rfl cs agg_Cmd L1.out (blk_cells CB.out) ?_) | fail); refine ⟨rfl, ?_⟩
                iterate 4 (refine wpG_quiet rfl (by kernel_rfl) rfl ?_; go_wp2; refine ⟨rfl, ?_⟩)
                refine wpG_quiet rfl (by kernel_rfl) rfl ?_; go_wp2_with (first | (refine wpList_load_row_g _ (by first | rfl | kernel_rfl) ⟨(ad.add (j * 16)).block, (ad.add (j * 16)).off + 5, none⟩ rfl cmx agg_Cmd hcl CC.out ?_) | fail); refine ⟨rfl, ?_⟩
                refine wpG_actor rfl (by kernel_rfl) ?_; go_wp2_with fail
                refine (sClash_any d zc cs cmx _ (by omega) HWX.out RC.out CR.out).mono ?_; rintro e v1 ⟨rfl, hb1⟩
                rw [HCL2.out]
                have HB1 := Lib.hid hb1; clear hb1
                go_wp2; refine ⟨Ext.of_below HB1.out, ?_⟩
                clear h4
                have X := Lib.hid (RL.out.below HB1.out); clear RL
                have RL := Lib.hid X.out; clear X
                have X := Lib.hid (RC.out.below HB1.out); clear RC
                have RC := Lib.hid X.out; clear X
                have X := Lib.hid (IB.out.below HB1.out); clear IB
                have IB := Lib.hid X.out; clear X
                have X := Lib.hid (CB.out.below HB1.out); clear CB
                have CB := Lib.hid X.out; clear X
                have X := Lib.hid (RD.out.below HB1.out); clear RD
                have RD := Lib.hid X.out; clear X
                have X := Lib.hid (CI.out.below HB1.out); clear CI
                have CI := Lib.hid X.out; clear X
                have X := Lib.hid (CC.out.below HB1.out); clear CC
                have CC := Lib.hid X.out; clear X
                have X := Lib.hid (CR.out.below HB1.out); clear CR
                have CR := Lib.hid X.out; clear X
                have X := Lib.hid (C4.out.below HB1.out); clear C4
                have C4 := Lib.hid X.out; clear X
                have X := Lib.hid (C13.out.below HB1.out); clear C13
                have C13 := Lib.hid X.out; clear X
                have X := Lib.hid (B.out.trans (HB1.out.mono B.out.size)); clear B
                have B := Lib.hid X.out; clear X
                clear HB1
                iterate 2 (refine wpG_quiet rfl (by kernel_rfl) rfl ?_; go_wp2; refine ⟨rfl, ?_⟩)
                refine wpG_nil ?_; try simp only [List.drop_succ_cons, List.drop_zero]
                try clear e3b
                try clear h4
                go_wp2_with (first | ((with_reducible show wpList _ _ _ ({ dst := _, op := Op.load 26 _, type := _, pos := _, after := _, guard := _ } :: _) _ _); refine wpList_load_row _ (ad.add (j * 16)) rfl [.int .i64 _, .int .i64 _] agg_Id rfl CI.out ?_) | fail)
                refine (hasId_any dps ⟨zr, zs⟩ A1 m1 c1 [.int .i64 zr, .int .i64 zs] _ HM1.out (by have := HM1.out; omega) RD.out (IdD.shut (x := ⟨zr, zs⟩))).mono ?_
                rintro e w9 ⟨rfl, hb⟩
                have HX := Lib.hid hb; clear hb
                have X := Lib.hid (RL.out.below HX.out); clear RL
                have RL := Lib.hid X.out; clear X
                have X := Lib.hid (RC.out.below HX.out); clear RC
                have RC := Lib.hid X.out; clear X
                have X := Lib.hid (IB.out.below HX.out); clear IB
                have IB := Lib.hid X.out; clear X
                have X := Lib.hid (CB.out.below HX.out); clear CB
                have CB := Lib.hid X.out; clear X
                have X := Lib.hid (RD.out.below HX.out); clear RD
                have RD := Lib.hid X.out; clear X
                have X := Lib.hid (CI.out.below HX.out); clear CI
                have CI := Lib.hid X.out; clear X
                have X := Lib.hid (CC.out.below HX.out); clear CC
                have CC := Lib.hid X.out; clear X
                have X := Lib.hid (CR.out.below HX.out); clear CR
                have CR := Lib.hid X.out; clear X
                have X := Lib.hid (C4.out.below HX.out); clear C4
                have C4 := Lib.hid X.out; clear X
                have X := Lib.hid (C13.out.below HX.out); clear C13
                have C13 := Lib.hid X.out; clear X
                have X := Lib.hid (B.out.trans (HX.out.mono B.out.size)); clear B
                have B := Lib.hid X.out; clear X
                clear HX
                rw [HH.out]
                go_wp2
                exact ⟨⟨j + 1, by omega, by go_num, RL.out, RC.out, IB.out, CB.out, RD.out, B.out⟩, by simp only [intOf]; omega⟩
              | true =>
                have HH := Lib.hid (show hasB dps ⟨zr, zs⟩ = true from HKC.out.trans hcl2)
                have HSL := Lib.hid (HSQ.out (HKP.out.trans hcl2))
                have HCL2 := Lib.hid hcl2; clear hcl2
                go_wp2
                refine wp_region_g 25 (.one 0 (.one 1 (.one 2 (.one 3 (.one 4 (.one 5 (.act 6 (.one 7 (.one 8 (.one 9 (.one 10 (.one 11 (.one 12 (.one 13 (.one 14 (.one 15 (.one 16 (.one 17 (.one 18 (.one 19 (.one 20 (.one 21 (.one 22 (.one 23 (.one 24 .leaf))))))))))))))))))))))))) (by kernel_rfl) (by kernel_rfl) ?_
                have X := Lib.hid (show Below w7.heap.size w7 w7.drew from (Below.refl _ _).drew)
                have h4 : w7.drew.cell? ⟨(ad.add (j * 16)).block, (ad.add (j * 16)).off + 4, none⟩ = some (.int .i64 zst) := C4.out
                clear X
                have X := Lib.hid (RL.out.drew); clear RL
                have RL := Lib.hid X.out; clear X
                have X := Lib.hid (RC.out.drew); clear RC
                have RC := Lib.hid X.out; clear X
                have X := Lib.hid (IB.out.drew); clear IB
                have IB := Lib.hid X.out; clear X
                have X := Lib.hid (CB.out.drew); clear CB
                have CB := Lib.hid X.out; clear X
                have X := Lib.hid (RD.out.drew); clear RD
                have RD := Lib.hid X.out; clear X
                have X := Lib.hid (CI.out.drew); clear CI
                have CI := Lib.hid X.out; clear X
                have X := Lib.hid (CC.out.drew); clear CC
                have CC := Lib.hid X.out; clear X
                have X := Lib.hid (CR.out.drew); clear CR
                have CR := Lib.hid X.out; clear X
                have X := Lib.hid (C4.out.drew); clear C4
                have C4 := Lib.hid X.out; clear X
                have X := Lib.hid (C13.out.drew); clear C13
                have C13 := Lib.hid X.out; clear X
                have X := Lib.hid (B.out.drew); clear B
                have B := Lib.hid X.out; clear X
                generalize w7.drew = w8 at RL RC IB CB RD CI CC CR C4 C13 B h4 ⊢
                iterate 4 (refine wpG_quiet rfl (by kernel_rfl) rfl ?_; go_wp2; refine ⟨rfl, ?_⟩)
                refine wpG_quiet rfl (by kernel_rfl) rfl ?_; go_wp2_with (first | (refine wpList_load_row _ (ad.add (j * 16)) rfl [.int .i64 _, .int .i64 _] agg_Id rfl CI.out ?_) | fail); refine ⟨rfl, ?_⟩
                refine wpG_quiet rfl (by kernel_rfl) rfl ?_; go_wp2_with (first | (refine wpList_load_row _ ⟨b4, 0, none⟩ rfl [.int .i64 _, .int .i64 _] agg_Id rfl (blk_cells IB.out) ?_) | fail); refine ⟨rfl, ?_⟩
                refine wpG_act rfl ?_; go_wp2
                refine ⟨Ext.refl _, ?_⟩
                have HZZ := Lib.hid hzr; clear hzr
                iterate 1 (refine wpG_quiet rfl (by kernel_rfl) rfl ?_; go_wp2; refine ⟨rfl, ?_⟩)
                iterate 6 (refine wpG_quiet rfl (by kernel_rfl) rfl ?_; go_wp2; refine ⟨rfl, ?_⟩)
                iterate 2 (refine wpG_quiet rfl (by kernel_rfl) rfl ?_; go_wp2; refine ⟨rfl, ?_⟩)
                refine wpG_quiet rfl (by kernel_rfl) rfl ?_; go_wp2_with (first | (refine wpList_load_row_g _ (by first | rfl | kernel_rfl) ⟨b5, 0, none⟩ rfl cs agg_Cmd L1.out (blk_cells CB.out) ?_) | fail); refine ⟨rfl, ?_⟩
                iterate 4 (refine wpG_quiet rfl (by kernel_rfl) rfl ?_; go_wp2; refine ⟨rfl, ?_⟩)
                refine wpG_quiet rfl (by kernel_rfl) rfl ?_; go_wp2_with (first | (refine wpList_load_row_g _ (by first | rfl | kernel_rfl) ⟨(ad.add (j * 16)).block, (ad.add (j * 16)).off + 5, none⟩ rfl cmx agg_Cmd hcl CC.out ?_) | fail); refine ⟨rfl, ?_⟩
                refine wpG_actor rfl (by kernel_rfl) ?_; go_wp2_with fail
                refine (sClash_any d zc cs cmx _ (by omega) HWX.out RC.out CR.out).mono ?_; rintro e v1 ⟨rfl, hb1⟩
                rw [HCL2.out]
                have HB1 := Lib.hid hb1; clear hb1
                go_wp2; refine ⟨Ext.of_below HB1.out, ?_⟩
                clear h4
                have X := Lib.hid (RL.out.below HB1.out); clear RL
                have RL := Lib.hid X.out; clear X
                have X := Lib.hid (RC.out.below HB1.out); clear RC
                have RC := Lib.hid X.out; clear X
                have X := Lib.hid (IB.out.below HB1.out); clear IB
                have IB := Lib.hid X.out; clear X
                have X := Lib.hid (CB.out.below HB1.out); clear CB
                have CB := Lib.hid X.out; clear X
                have X := Lib.hid (RD.out.below HB1.out); clear RD
                have RD := Lib.hid X.out; clear X
                have X := Lib.hid (CI.out.below HB1.out); clear CI
                have CI := Lib.hid X.out; clear X
                have X := Lib.hid (CC.out.below HB1.out); clear CC
                have CC := Lib.hid X.out; clear X
                have X := Lib.hid (CR.out.below HB1.out); clear CR
                have CR := Lib.hid X.out; clear X
                have X := Lib.hid (C4.out.below HB1.out); clear C4
                have C4 := Lib.hid X.out; clear X
                have X := Lib.hid (C13.out.below HB1.out); clear C13
                have C13 := Lib.hid X.out; clear X
                have X := Lib.hid (B.out.trans (HB1.out.mono B.out.size)); clear B
                have B := Lib.hid X.out; clear X
                clear HB1
                iterate 2 (refine wpG_quiet rfl (by kernel_rfl) rfl ?_; go_wp2; refine ⟨rfl, ?_⟩)
                refine wpG_nil ?_; try simp only [List.drop_succ_cons, List.drop_zero]
                try clear e3b
                try clear h4
                go_wp2_with (first | ((with_reducible show wpList _ _ _ ({ dst := _, op := Op.load 26 _, type := _, pos := _, after := _, guard := _ } :: _) _ _); refine wpList_load_row _ (ad.add (j * 16)) rfl [.int .i64 _, .int .i64 _] agg_Id rfl CI.out ?_) | fail)
                refine (hasId_any dps ⟨zr, zs⟩ A1 m1 c1 [.int .i64 zr, .int .i64 zs] _ HM1.out (by have := HM1.out; omega) RD.out (IdD.shut (x := ⟨zr, zs⟩))).mono ?_
                rintro e w9 ⟨rfl, hb⟩
                have HX := Lib.hid hb; clear hb
                have X := Lib.hid (RL.out.below HX.out); clear RL
                have RL := Lib.hid X.out; clear X
                have X := Lib.hid (RC.out.below HX.out); clear RC
                have RC := Lib.hid X.out; clear X
                have X := Lib.hid (IB.out.below HX.out); clear IB
                have IB := Lib.hid X.out; clear X
                have X := Lib.hid (CB.out.below HX.out); clear CB
                have CB := Lib.hid X.out; clear X
                have X := Lib.hid (RD.out.below HX.out); clear RD
                have RD := Lib.hid X.out; clear X
                have X := Lib.hid (CI.out.below HX.out); clear CI
                have CI := Lib.hid X.out; clear X
                have X := Lib.hid (CC.out.below HX.out); clear CC
                have CC := Lib.hid X.out; clear X
                have X := Lib.hid (CR.out.below HX.out); clear CR
                have CR := Lib.hid X.out; clear X
                have X := Lib.hid (C4.out.below HX.out); clear C4
                have C4 := Lib.hid X.out; clear X
                have X := Lib.hid (C13.out.below HX.out); clear C13
                have C13 := Lib.hid X.out; clear X
                have X := Lib.hid (B.out.trans (HX.out.mono B.out.size)); clear B
                have B := Lib.hid X.out; clear X
                clear HX
                rw [HH.out]
                have h13 : w9.cell? ⟨(ad.add (j * 16)).block, (ad.add (j * 16)).off + 13, none⟩ = some (.int .i64 zq) := C13.out
                have hsl : ¬ sq ≤ zq := by have := HSL.out; omega
                go_wp2
                exact ⟨⟨j + 1, by omega, by go_num, RL.out, RC.out, IB.out, CB.out, RD.out, B.out⟩, by simp only [intOf]; omega⟩
          have hzs : zs ≠ iq := fun h => e1 ⟨hzr, h⟩
          subst hzr
          have hne : ¬ (IdD.mk zr zs = IdD.mk zr iq) := fun h => hzs (by injection h)
          clear e1
          by_cases e3 : zst = 0
          · have HH := Lib.hid (show hasB dps ⟨zr, zs⟩ = false from HK.out.trans (KN2.out e3))
            have e3b : (zst != 0) = false := by simpa using e3
            have HNE := Lib.hid hne; clear hne e3
            go_wp2
            refine wp_region_g 25 (.one 0 (.one 1 (.one 2 (.one 3 (.one 4 (.one 5 (.act 6 (.one 7 (.one 8 (.one 9 (.one 10 (.one 11 (.one 12 (.one 13 (.one 14 (.one 15 (.one 16 (.one 17 (.one 18 (.one 19 (.one 20 (.one 21 (.one 22 (.one 23 (.one 24 .leaf))))))))))))))))))))))))) (by kernel_rfl) (by kernel_rfl) ?_
            have X := Lib.hid (show Below w7.heap.size w7 w7.drew from (Below.refl _ _).drew)
            have h4 : w7.drew.cell? ⟨(ad.add (j * 16)).block, (ad.add (j * 16)).off + 4, none⟩ = some (.int .i64 zst) := C4.out
            clear X
            have X := Lib.hid (RL.out.drew); clear RL
            have RL := Lib.hid X.out; clear X
            have X := Lib.hid (RC.out.drew); clear RC
            have RC := Lib.hid X.out; clear X
            have X := Lib.hid (IB.out.drew); clear IB
            have IB := Lib.hid X.out; clear X
            have X := Lib.hid (CB.out.drew); clear CB
            have CB := Lib.hid X.out; clear X
            have X := Lib.hid (RD.out.drew); clear RD
            have RD := Lib.hid X.out; clear X
            have X := Lib.hid (CI.out.drew); clear CI
            have CI := Lib.hid X.out; clear X
            have X := Lib.hid (CC.out.drew); clear CC
            have CC := Lib.hid X.out; clear X
            have X := Lib.hid (CR.out.drew); clear CR
            have CR := Lib.hid X.out; clear X
            have X := Lib.hid (C4.out.drew); clear C4
            have C4 := Lib.hid X.out; clear X
            have X := Lib.hid (C13.out.drew); clear C13
            have C13 := Lib.hid X.out; clear X
            have X := Lib.hid (B.out.drew); clear B
            have B := Lib.hid X.out; clear X
            generalize w7.drew = w8 at RL RC IB CB RD CI CC CR C4 C13 B h4 ⊢
            iterate 4 (refine wpG_quiet rfl (by kernel_rfl) rfl ?_; go_wp2; refine ⟨rfl, ?_⟩)
            refine wpG_quiet rfl (by kernel_rfl) rfl ?_; go_wp2_with (first | (refine wpList_load_row _ (ad.add (j * 16)) rfl [.int .i64 _, .int .i64 _] agg_Id rfl CI.out ?_) | fail); refine ⟨rfl, ?_⟩
            refine wpG_quiet rfl (by kernel_rfl) rfl ?_; go_wp2_with (first | (refine wpList_load_row _ ⟨b4, 0, none⟩ rfl [.int .i64 _, .int .i64 _] agg_Id rfl (blk_cells IB.out) ?_) | fail); refine ⟨rfl, ?_⟩
            refine wpG_act rfl ?_; go_wp2
            refine ⟨Ext.refl _, ?_⟩
            have HZZ := Lib.hid hzs; clear hzs
            iterate 1 (refine wpG_quiet rfl (by kernel_rfl) rfl ?_; go_wp2; refine ⟨rfl, ?_⟩)
            iterate 6 (refine wpG_quiet rfl (by kernel_rfl) rfl ?_; go_wp2; refine ⟨rfl, ?_⟩)
            iterate 2 (refine wpG_quiet rfl (by kernel_rfl) rfl ?_; go_wp2; refine ⟨rfl, ?_⟩)
            iterate 7 (refine wpG_skip rfl rfl (by kernel_rfl) ?_; simp only [List.setIfInBounds_toArray, List.set_cons_succ, List.set_cons_zero])
            iterate 2 (refine wpG_quiet rfl (by kernel_rfl) rfl ?_; go_wp2; refine ⟨rfl, ?_⟩)
            refine wpG_nil ?_; try simp only [List.drop_succ_cons, List.drop_zero]
            try clear e3b
            try clear h4
            go_wp2_with (first | ((with_reducible show wpList _ _ _ ({ dst := _, op := Op.load 26 _, type := _, pos := _, after := _, guard := _ } :: _) _ _); refine wpList_load_row _ (ad.add (j * 16)) rfl [.int .i64 _, .int .i64 _] agg_Id rfl CI.out ?_) | fail)
            refine (hasId_any dps ⟨zr, zs⟩ A1 m1 c1 [.int .i64 zr, .int .i64 zs] _ HM1.out (by have := HM1.out; omega) RD.out (IdD.shut (x := ⟨zr, zs⟩))).mono ?_
            rintro e w9 ⟨rfl, hb⟩
            have HX := Lib.hid hb; clear hb
            have X := Lib.hid (RL.out.below HX.out); clear RL
            have RL := Lib.hid X.out; clear X
            have X := Lib.hid (RC.out.below HX.out); clear RC
            have RC := Lib.hid X.out; clear X
            have X := Lib.hid (IB.out.below HX.out); clear IB
            have IB := Lib.hid X.out; clear X
            have X := Lib.hid (CB.out.below HX.out); clear CB
            have CB := Lib.hid X.out; clear X
            have X := Lib.hid (RD.out.below HX.out); clear RD
            have RD := Lib.hid X.out; clear X
            have X := Lib.hid (CI.out.below HX.out); clear CI
            have CI := Lib.hid X.out; clear X
            have X := Lib.hid (CC.out.below HX.out); clear CC
            have CC := Lib.hid X.out; clear X
            have X := Lib.hid (CR.out.below HX.out); clear CR
            have CR := Lib.hid X.out; clear X
            have X := Lib.hid (C4.out.below HX.out); clear C4
            have C4 := Lib.hid X.out; clear X
            have X := Lib.hid (C13.out.below HX.out); clear C13
            have C13 := Lib.hid X.out; clear X
            have X := Lib.hid (B.out.trans (HX.out.mono B.out.size)); clear B
            have B := Lib.hid X.out; clear X
            clear HX
            rw [HH.out]
            go_wp2
            exact ⟨⟨j + 1, by omega, by go_num, RL.out, RC.out, IB.out, CB.out, RD.out, B.out⟩, by simp only [intOf]; omega⟩
          · have e3b : (zst != 0) = true := by simpa using e3
            have HKC := Lib.hid (HK.out.trans (KY.out hne e3))
            have HKP := Lib.hid (KY.out hne e3)
            have HNE := Lib.hid hne; clear hne e3
            cases hcl2 : clashB d zc with
            | false =>
              have HH := Lib.hid (show hasB dps ⟨zr, zs⟩ = false from HKC.out.trans hcl2)
              have HCL2 := Lib.hid hcl2; clear hcl2
              go_wp2
              refine wp_region_g 25 (.one 0 (.one 1 (.one 2 (.one 3 (.one 4 (.one 5 (.act 6 (.one 7 (.one 8 (.one 9 (.one 10 (.one 11 (.one 12 (.one 13 (.one 14 (.one 15 (.one 16 (.one 17 (.one 18 (.one 19 (.one 20 (.one 21 (.one 22 (.one 23 (.one 24 .leaf))))))))))))))))))))))))) (by kernel_rfl) (by kernel_rfl) ?_
              have X := Lib.hid (show Below w7.heap.size w7 w7.drew from (Below.refl _ _).drew)
              have h4 : w7.drew.cell? ⟨(ad.add (j * 16)).block, (ad.add (j * 16)).off + 4, none⟩ = some (.int .i64 zst) := C4.out
              clear X
              have X := Lib.hid (RL.out.drew); clear RL
              have RL := Lib.hid X.out; clear X
              have X := Lib.hid (RC.out.drew); clear RC
              have RC := Lib.hid X.out; clear X
              have X := Lib.hid (IB.out.drew); clear IB
              have IB := Lib.hid X.out; clear X
              have X := Lib.hid (CB.out.drew); clear CB
              have CB := Lib.hid X.out; clear X
              have X := Lib.hid (RD.out.drew); clear RD
              have RD := Lib.hid X.out; clear X
              have X := Lib.hid (CI.out.drew); clear CI
              have CI := Lib.hid X.out; clear X
              have X := Lib.hid (CC.out.drew); clear CC
              have CC := Lib.hid X.out; clear X
              have X := Lib.hid (CR.out.drew); clear CR
              have CR := Lib.hid X.out; clear X
              have X := Lib.hid (C4.out.drew); clear C4
              have C4 := Lib.hid X.out; clear X
              have X := Lib.hid (C13.out.drew); clear C13
              have C13 := Lib.hid X.out; clear X
              have X := Lib.hid (B.out.drew); clear B
              have B := Lib.hid X.out; clear X
              generalize w7.drew = w8 at RL RC IB CB RD CI CC CR C4 C13 B h4 ⊢
              iterate 4 (refine wpG_quiet rfl (by kernel_rfl) rfl ?_; go_wp2; refine ⟨rfl, ?_⟩)
              refine wpG_quiet rfl (by kernel_rfl) rfl ?_; go_wp2_with (first | (refine wpList_load_row _ (ad.add (j * 16)) rfl [.int .i64 _, .int .i64 _] agg_Id rfl CI.out ?_) | fail); refine ⟨rfl, ?_⟩
              refine wpG_quiet rfl (by kernel_rfl) rfl ?_; go_wp2_with (first | (refine wpList_load_row _ ⟨b4, 0, none⟩ rfl [.int .i64 _, .int .i64 _] agg_Id rfl (blk_cells IB.out) ?_) | fail); refine ⟨rfl, ?_⟩
              refine wpG_act rfl ?_; go_wp2
              refine ⟨Ext.refl _, ?_⟩
              have HZZ := Lib.hid hzs; clear hzs
              iterate 1 (refine wpG_quiet rfl (by kernel_rfl) rfl ?_; go_wp2; refine ⟨rfl, ?_⟩)
              iterate 6 (refine wpG_quiet rfl (by kernel_rfl) rfl ?_; go_wp2; refine ⟨rfl, ?_⟩)
              iterate 2 (refine wpG_quiet rfl (by kernel_rfl) rfl ?_; go_wp2; refine ⟨rfl, ?_⟩)
              refine wpG_quiet rfl (by kernel_rfl) rfl ?_; go_wp2_with (first | (refine wpList_load_row_g _ (by first | rfl | kernel_rfl) ⟨b5, 0, none⟩ rfl cs agg_Cmd L1.out (blk_cells CB.out) ?_) | fail); refine ⟨rfl, ?_⟩
              iterate 4 (refine wpG_quiet rfl (by kernel_rfl) rfl ?_; go_wp2; refine ⟨rfl, ?_⟩)
              refine wpG_quiet rfl (by kernel_rfl) rfl ?_; go_wp2_with (first | (refine wpList_load_row_g _ (by first | rfl | kernel_rfl) ⟨(ad.add (j * 16)).block, (ad.add (j * 16)).off + 5, none⟩ rfl cmx agg_Cmd hcl CC.out ?_) | fail); refine ⟨rfl, ?_⟩
              refine wpG_actor rfl (by kernel_rfl) ?_; go_wp2_with fail
              refine (sClash_any d zc cs cmx _ (by omega) HWX.out RC.out CR.out).mono ?_; rintro e v1 ⟨rfl, hb1⟩
              rw [HCL2.out]
              have HB1 := Lib.hid hb1; clear hb1
              go_wp2; refine ⟨Ext.of_below HB1.out, ?_⟩
              clear h4
              have X := Lib.hid (RL.out.below HB1.out); clear RL
              have RL := Lib.hid X.out; clear X
              have X := Lib.hid (RC.out.below HB1.out); clear RC
              have RC := Lib.hid X.out; clear X
              have X := Lib.hid (IB.out.below HB1.out); clear IB
              have IB := Lib.hid X.out; clear X
              have X := Lib.hid (CB.out.below HB1.out); clear CB
              have CB := Lib.hid X.out; clear X
              have X := Lib.hid (RD.out.below HB1.out); clear RD
              have RD := Lib.hid X.out; clear X
              have X := Lib.hid (CI.out.below HB1.out); clear CI
              have CI := Lib.hid X.out; clear X
              have X := Lib.hid (CC.out.below HB1.out); clear CC
              have CC := Lib.hid X.out; clear X
              have X := Lib.hid (CR.out.below HB1.out); clear CR
              have CR := Lib.hid X.out; clear X
              have X := Lib.hid (C4.out.below HB1.out); clear C4
              have C4 := Lib.hid X.out; clear X
              have X := Lib.hid (C13.out.below HB1.out); clear C13
              have C13 := Lib.hid X.out; clear X
              have X := Lib.hid (B.out.trans (HB1.out.mono B.out.size)); clear B
              have B := Lib.hid X.out; clear X
              clear HB1
              iterate 2 (refine wpG_quiet rfl (by kernel_rfl) rfl ?_; go_wp2; refine ⟨rfl, ?_⟩)
              refine wpG_nil ?_; try simp only [List.drop_succ_cons, List.drop_zero]
              try clear e3b
              try clear h4
              go_wp2_with (first | ((with_reducible show wpList _ _ _ ({ dst := _, op := Op.load 26 _, type := _, pos := _, after := _, guard := _ } :: _) _ _); refine wpList_load_row _ (ad.add (j * 16)) rfl [.int .i64 _, .int .i64 _] agg_Id rfl CI.out ?_) | fail)
              refine (hasId_any dps ⟨zr, zs⟩ A1 m1 c1 [.int .i64 zr, .int .i64 zs] _ HM1.out (by have := HM1.out; omega) RD.out (IdD.shut (x := ⟨zr, zs⟩))).mono ?_
              rintro e w9 ⟨rfl, hb⟩
              have HX := Lib.hid hb; clear hb
              have X := Lib.hid (RL.out.below HX.out); clear RL
              have RL := Lib.hid X.out; clear X
              have X := Lib.hid (RC.out.below HX.out); clear RC
              have RC := Lib.hid X.out; clear X
              have X := Lib.hid (IB.out.below HX.out); clear IB
              have IB := Lib.hid X.out; clear X
              have X := Lib.hid (CB.out.below HX.out); clear CB
              have CB := Lib.hid X.out; clear X
              have X := Lib.hid (RD.out.below HX.out); clear RD
              have RD := Lib.hid X.out; clear X
              have X := Lib.hid (CI.out.below HX.out); clear CI
              have CI := Lib.hid X.out; clear X
              have X := Lib.hid (CC.out.below HX.out); clear CC
              have CC := Lib.hid X.out; clear X
              have X := Lib.hid (CR.out.below HX.out); clear CR
              have CR := Lib.hid X.out; clear X
              have X := Lib.hid (C4.out.below HX.out); clear C4
              have C4 := Lib.hid X.out; clear X
              have X := Lib.hid (C13.out.below HX.out); clear C13
              have C13 := Lib.hid X.out; clear X
              have X := Lib.hid (B.out.trans (HX.out.mono B.out.size)); clear B
              have B := Lib.hid X.out; clear X
              clear HX
              rw [HH.out]
              go_wp2
              exact ⟨⟨j + 1, by omega, by go_num, RL.out, RC.out, IB.out, CB.out, RD.out, B.out⟩, by simp only [intOf]; omega⟩
            | true =>
              have HH := Lib.hid (show hasB dps ⟨zr, zs⟩ = true from HKC.out.trans hcl2)
              have HSL := Lib.hid (HSQ.out (HKP.out.trans hcl2))
              have HCL2 := Lib.hid hcl2; clear hcl2
              go_wp2
              refine wp_region_g 25 (.one 0 (.one 1 (.one 2 (.one 3 (.one 4 (.one 5 (.act 6 (.one 7 (.one 8 (.one 9 (.one 10 (.one 11 (.one 12 (.one 13 (.one 14 (.one 15 (.one 16 (.one 17 (.one 18 (.one 19 (.one 20 (.one 21 (.one 22 (.one 23 (.one 24 .leaf))))))))))))))))))))))))) (by kernel_rfl) (by kernel_rfl) ?_
              have X := Lib.hid (show Below w7.heap.size w7 w7.drew from (Below.refl _ _).drew)
              have h4 : w7.drew.cell? ⟨(ad.add (j * 16)).block, (ad.add (j * 16)).off + 4, none⟩ = some (.int .i64 zst) := C4.out
              clear X
              have X := Lib.hid (RL.out.drew); clear RL
              have RL := Lib.hid X.out; clear X
              have X := Lib.hid (RC.out.drew); clear RC
              have RC := Lib.hid X.out; clear X
              have X := Lib.hid (IB.out.drew); clear IB
              have IB := Lib.hid X.out; clear X
              have X := Lib.hid (CB.out.drew); clear CB
              have CB := Lib.hid X.out; clear X
              have X := Lib.hid (RD.out.drew); clear RD
              have RD := Lib.hid X.out; clear X
              have X := Lib.hid (CI.out.drew); clear CI
              have CI := Lib.hid X.out; clear X
              have X := Lib.hid (CC.out.drew); clear CC
              have CC := Lib.hid X.out; clear X
              have X := Lib.hid (CR.out.drew); clear CR
              have CR := Lib.hid X.out; clear X
              have X := Lib.hid (C4.out.drew); clear C4
              have C4 := Lib.hid X.out; clear X
              have X := Lib.hid (C13.out.drew); clear C13
              have C13 := Lib.hid X.out; clear X
              have X := Lib.hid (B.out.drew); clear B
              have B := Lib.hid X.out; clear X
              generalize w7.drew = w8 at RL RC IB CB RD CI CC CR C4 C13 B h4 ⊢
              iterate 4 (refine wpG_quiet rfl (by kernel_rfl) rfl ?_; go_wp2; refine ⟨rfl, ?_⟩)
              refine wpG_quiet rfl (by kernel_rfl) rfl ?_; go_wp2_with (first | (refine wpList_load_row _ (ad.add (j * 16)) rfl [.int .i64 _, .int .i64 _] agg_Id rfl CI.out ?_) | fail); refine ⟨rfl, ?_⟩
              refine wpG_quiet rfl (by kernel_rfl) rfl ?_; go_wp2_with (first | (refine wpList_load_row _ ⟨b4, 0, none⟩ rfl [.int .i64 _, .int .i64 _] agg_Id rfl (blk_cells IB.out) ?_) | fail); refine ⟨rfl, ?_⟩
              refine wpG_act rfl ?_; go_wp2
              refine ⟨Ext.refl _, ?_⟩
              have HZZ := Lib.hid hzs; clear hzs
              iterate 1 (refine wpG_quiet rfl (by kernel_rfl) rfl ?_; go_wp2; refine ⟨rfl, ?_⟩)
              iterate 6 (refine wpG_quiet rfl (by kernel_rfl) rfl ?_; go_wp2; refine ⟨rfl, ?_⟩)
              iterate 2 (refine wpG_quiet rfl (by kernel_rfl) rfl ?_; go_wp2; refine ⟨rfl, ?_⟩)
              refine wpG_quiet rfl (by kernel_rfl) rfl ?_; go_wp2_with (first | (refine wpList_load_row_g _ (by first | rfl | kernel_rfl) ⟨b5, 0, none⟩ rfl cs agg_Cmd L1.out (blk_cells CB.out) ?_) | fail); refine ⟨rfl, ?_⟩
              iterate 4 (refine wpG_quiet rfl (by kernel_rfl) rfl ?_; go_wp2; refine ⟨rfl, ?_⟩)
              refine wpG_quiet rfl (by kernel_rfl) rfl ?_; go_wp2_with (first | (refine wpList_load_row_g _ (by first | rfl | kernel_rfl) ⟨(ad.add (j * 16)).block, (ad.add (j * 16)).off + 5, none⟩ rfl cmx agg_Cmd hcl CC.out ?_) | fail); refine ⟨rfl, ?_⟩
              refine wpG_actor rfl (by kernel_rfl) ?_; go_wp2_with fail
              refine (sClash_any d zc cs cmx _ (by omega) HWX.out RC.out CR.out).mono ?_; rintro e v1 ⟨rfl, hb1⟩
              rw [HCL2.out]
              have HB1 := Lib.hid hb1; clear hb1
              go_wp2; refine ⟨Ext.of_below HB1.out, ?_⟩
              clear h4
              have X := Lib.hid (RL.out.below HB1.out); clear RL
              have RL := Lib.hid X.out; clear X
              have X := Lib.hid (RC.out.below HB1.out); clear RC
              have RC := Lib.hid X.out; clear X
              have X := Lib.hid (IB.out.below HB1.out); clear IB
              have IB := Lib.hid X.out; clear X
              have X := Lib.hid (CB.out.below HB1.out); clear CB
              have CB := Lib.hid X.out; clear X
              have X := Lib.hid (RD.out.below HB1.out); clear RD
              have RD := Lib.hid X.out; clear X
              have X := Lib.hid (CI.out.below HB1.out); clear CI
              have CI := Lib.hid X.out; clear X
              have X := Lib.hid (CC.out.below HB1.out); clear CC
              have CC := Lib.hid X.out; clear X
              have X := Lib.hid (CR.out.below HB1.out); clear CR
              have CR := Lib.hid X.out; clear X
              have X := Lib.hid (C4.out.below HB1.out); clear C4
              have C4 := Lib.hid X.out; clear X
              have X := Lib.hid (C13.out.below HB1.out); clear C13
              have C13 := Lib.hid X.out; clear X
              have X := Lib.hid (B.out.trans (HB1.out.mono B.out.size)); clear B
              have B := Lib.hid X.out; clear X
              clear HB1
              iterate 2 (refine wpG_quiet rfl (by kernel_rfl) rfl ?_; go_wp2; refine ⟨rfl, ?_⟩)
              refine wpG_nil ?_; try simp only [List.drop_succ_cons, List.drop_zero]
              try clear e3b
              try clear h4
              go_wp2_with (first | ((with_reducible show wpList _ _ _ ({ dst := _, op := Op.load 26 _, type := _, pos := _, after := _, guard := _ } :: _) _ _); refine wpList_load_row _ (ad.add (j * 16)) rfl [.int .i64 _, .int .i64 _] agg_Id rfl CI.out ?_) | fail)
              refine (hasId_any dps ⟨zr, zs⟩ A1 m1 c1 [.int .i64 zr, .int .i64 zs] _ HM1.out (by have := HM1.out; omega) RD.out (IdD.shut (x := ⟨zr, zs⟩))).mono ?_
              rintro e w9 ⟨rfl, hb⟩
              have HX := Lib.hid hb; clear hb
              have X := Lib.hid (RL.out.below HX.out); clear RL
              have RL := Lib.hid X.out; clear X
              have X := Lib.hid (RC.out.below HX.out); clear RC
              have RC := Lib.hid X.out; clear X
              have X := Lib.hid (IB.out.below HX.out); clear IB
              have IB := Lib.hid X.out; clear X
              have X := Lib.hid (CB.out.below HX.out); clear CB
              have CB := Lib.hid X.out; clear X
              have X := Lib.hid (RD.out.below HX.out); clear RD
              have RD := Lib.hid X.out; clear X
              have X := Lib.hid (CI.out.below HX.out); clear CI
              have CI := Lib.hid X.out; clear X
              have X := Lib.hid (CC.out.below HX.out); clear CC
              have CC := Lib.hid X.out; clear X
              have X := Lib.hid (CR.out.below HX.out); clear CR
              have CR := Lib.hid X.out; clear X
              have X := Lib.hid (C4.out.below HX.out); clear C4
              have C4 := Lib.hid X.out; clear X
              have X := Lib.hid (C13.out.below HX.out); clear C13
              have C13 := Lib.hid X.out; clear X
              have X := Lib.hid (B.out.trans (HX.out.mono B.out.size)); clear B
              have B := Lib.hid X.out; clear X
              clear HX
              rw [HH.out]
              have h13 : w9.cell? ⟨(ad.add (j * 16)).block, (ad.add (j * 16)).off + 13, none⟩ = some (.int .i64 zq) := C13.out
              have hsl : ¬ sq ≤ zq := by have := HSL.out; omega
              go_wp2
              exact ⟨⟨j + 1, by omega, by go_num, RL.out, RC.out, IB.out, CB.out, RD.out, B.out⟩, by simp only [intOf]; omega⟩
        | false =>
          clear hok
          go_wp2
          go_meet
          exact ⟨RL.out, RC.out, IB.out, CB.out, RD.out, B.out⟩
      · have hjq : j = q := by omega
        have hd1 : ¬ (j : Int) < (q : Int) := by omega
        go_wp2
        go_meet
        exact ⟨RL.out, RC.out, IB.out, CB.out, RD.out, B.out⟩
  case rest =>
    obtain ⟨hRL, hRC, hIB, hCB, hRD, hB⟩ := hcut
    clear RL
    have RL := Lib.hid hRL; clear hRL
    clear RC
    have RC := Lib.hid hRC; clear hRC
    clear IB
    have IB := Lib.hid hIB; clear hIB
    clear CB
    have CB := Lib.hid hCB; clear hCB
    clear RD
    have RD := Lib.hid hRD; clear hRD
    clear B
    have B := Lib.hid hB; clear hB
    clear RL RC IB CB RD L1 HFA HLW HM1
    go_wp2_with fail
    refine (HDP.out _ (HB.out.below B.out)).mono ?_
    rintro e w10 ⟨m, x, csx, A3, q2, k2, rfl, hq2, hq26, hwt2, hwx, hrm, hrx, hb⟩
    have HX := Lib.hid hb; clear hb
    have X := Lib.hid (B.out.trans (HX.out.mono B.out.size)); clear B
    have B := Lib.hid X.out; clear X
    clear HX
    have HQ2 := Lib.hid hq2; clear hq2
    have hmw : q2 + (cat InstD.c m).wt ≤ 1048576 := by have h1 := cat_wt_max hwt2; have h2 := HQ2.out; have h3 := Nat.mul_le_mul_left 301 (show m.length ≤ 6 by omega); omega
    have HMW := Lib.hid hmw; clear hmw
    have HWT2 := Lib.hid hwt2; clear hwt2
    have HX16 := Lib.hid (show csx.length = 16 from hrx.length.trans (InstD.width _))
    have hid2 : ∃ tl, csx = .int .i64 x.id.rep :: .int .i64 x.id.slot :: tl := by obtain ⟨_, _, _, _, e, _, _⟩ := InstD.open hrx; exact ⟨_, e⟩
    have HID2 := Lib.hid hid2; clear hid2
    have RM := Lib.hid hrm; clear hrm
    have RX := Lib.hid hrx; clear hrx HDP
    go_wp2_with (first
      | ((with_reducible show wpList _ _ _ ({ dst := _, op := Op.store 38 _ _, type := _, pos := _, after := _, guard := _ } :: _) _ _); go_must (refine wpList_store_row _ w10.heap.size 38 0 csx [] [.int .i64 0, .int .i64 0, .int .i64 0, .int .i64 0, .int .i64 0, .int .i64 0, .int .i64 0, .int .i64 0, .string (bs []), .string (bs []), .string (bs []), .int .i64 0, .slice none 0 0, .int .i64 0, .slice none 0 0, .bool false] [] _ rfl rfl (HX16.out ▸ agg_Inst) (blk_new w10 _ _) rfl rfl HX16.out.symm RX.out.one ?_; intro v11 h3 g3; have XB := Lib.hid (show Blk v11 w10.heap.size 38 csx.toArray from by simpa using h3); have HX := Lib.hid (show Below w10.heap.size w10 v11 from ((Below.refl _ _).alloc (Nat.le_refl _) _).grown g3 (by simp) (fun k hk => by injection hk with hk; omega)); clear h3 g3))
      | ((with_reducible show wpList _ _ _ ({ dst := _, op := Op.load 38 _, type := _, pos := _, after := _, guard := _ } :: _) _ _); refine wpList_load_row _ ⟨w10.heap.size, 0, none⟩ rfl csx agg_Inst HX16.out (blk_cells XB.out) ?_)
      | fail)
    have X := Lib.hid (RM.out.below HX.out); clear RM
    have RM := Lib.hid X.out; clear X
    have X := Lib.hid (RX.out.below HX.out); clear RX
    have RX := Lib.hid X.out; clear X
    have X := Lib.hid (B.out.trans (HX.out.mono B.out.size)); clear B
    have B := Lib.hid X.out; clear X
    clear HX
    obtain ⟨b13, hb13⟩ : ∃ z, z = w10.heap.size := ⟨_, rfl⟩
    rw [← hb13] at XB ⊢
    clear hb13
    have hyg := fun h => put_good x h (l := m)
    have hya := fun h => put_at x h (l := m)
    have hyn := fun h => put_nil (l := m) (x := x) h
    have hyw := put_wt6 (l := m) (x := x) (by have := HQ2.out; omega) HWT2.out hwx
    refine (iInstPut_any m x A3 q2 k2 csx _ HQ2.out HMW.out (by omega) RM.out RX.out).mono ?_
    rintro e w12 ⟨A4, m4, c4, rfl, hm4, hmy, hb⟩
    have HX := Lib.hid hb; clear hb
    have X := Lib.hid (RM.out.below HX.out); clear RM
    have RM := Lib.hid X.out; clear X
    have X := Lib.hid (RX.out.below HX.out); clear RX
    have RX := Lib.hid X.out; clear X
    have X := Lib.hid (XB.out.below HX.out); clear XB
    have XB := Lib.hid X.out; clear X
    have X := Lib.hid (B.out.trans (HX.out.mono B.out.size)); clear B
    have B := Lib.hid X.out; clear X
    clear HX
    generalize fInstPut m x = y at *
    have RY := Lib.hid hmy.rep.any; clear hmy
    have HM4 := Lib.hid hm4; clear hm4
    have HYG := Lib.hid hyg; clear hyg
    have HYA := Lib.hid hya; clear hya
    have HYN := Lib.hid hyn; clear hyn
    have HYW := Lib.hid hyw; clear hyw
    go_wp2_with fail
    refine (sInstsOk_any m A3 q2 k2 _ HQ2.out HMW.out RM.out).mono ?_
    rintro e w13 ⟨rfl, hb⟩
    have HX := Lib.hid hb; clear hb
    have X := Lib.hid (RM.out.below HX.out); clear RM
    have RM := Lib.hid X.out; clear X
    have X := Lib.hid (RX.out.below HX.out); clear RX
    have RX := Lib.hid X.out; clear X
    have X := Lib.hid (XB.out.below HX.out); clear XB
    have XB := Lib.hid X.out; clear X
    have X := Lib.hid (RY.out.below HX.out); clear RY
    have RY := Lib.hid X.out; clear X
    have X := Lib.hid (B.out.trans (HX.out.mono B.out.size)); clear B
    have B := Lib.hid X.out; clear X
    clear HX
    cases hok : instsOkB m with
    | false =>
      have hy0 : m4 = 0 := by rw [HM4.out, HYN.out hok]; rfl
      clear hok
      subst hy0
      go_wp2
      go_ret
      exact ⟨ret_eq (by first | rfl | simp), B.out⟩
    | true =>
      have HYG2 := Lib.hid (HYG.out hok)
      have HYA2 := Lib.hid (HYA.out hok)
      clear hok HYG HYA HYN
      go_wp2_with fail
      refine (HDJ.out _ (HB.out.below B.out)).mono ?_
      rintro e w14 ⟨a, b, Aa, Ab, qa, qb, ka, kb, rfl, hqa, hqb, hqa10, hqb10, hka, hkb, hra, hrb, hb⟩
      have HX := Lib.hid hb; clear hb
      have X := Lib.hid (RM.out.below HX.out); clear RM
      have RM := Lib.hid X.out; clear X
      have X := Lib.hid (RX.out.below HX.out); clear RX
      have RX := Lib.hid X.out; clear X
      have X := Lib.hid (XB.out.below HX.out); clear XB
      have XB := Lib.hid X.out; clear X
      have X := Lib.hid (RY.out.below HX.out); clear RY
      have RY := Lib.hid X.out; clear X
      have X := Lib.hid (B.out.trans (HX.out.mono B.out.size)); clear B
      have B := Lib.hid X.out; clear X
      clear HX
      have HQA := Lib.hid hqa; clear hqa
      have HQB := Lib.hid hqb; clear hqb
      have RA := Lib.hid hra; clear hra
      have RB := Lib.hid hrb; clear hrb HDJ HB
      have HWA := Lib.hid (show qa + (cat IdD.c a).wt ≤ 1048576 from by rw [ids_wt]; omega)
      have HWB := Lib.hid (show qb + (cat IdD.c b).wt ≤ 1048576 from by rw [ids_wt]; omega)
      go_wp2_with fail
      have hjl : (fJoinIds a b).length ≤ 20 := by unfold fJoinIds; split; (· have := joinF_len a b; have := HQA.out; have := HQB.out; omega); (· simp)
      refine (iJoinIds_any a b Aa qa ka Ab qb kb _ HQA.out HWA.out HQB.out HWB.out RA.out RB.out hka).mono ?_
      rintro e w15 ⟨A5, m5, c5, rfl, hm5, hmj, hb⟩
      have HX := Lib.hid hb; clear hb
      have X := Lib.hid (RM.out.below HX.out); clear RM
      have RM := Lib.hid X.out; clear X
      have X := Lib.hid (RX.out.below HX.out); clear RX
      have RX := Lib.hid X.out; clear X
      have X := Lib.hid (XB.out.below HX.out); clear XB
      have XB := Lib.hid X.out; clear X
      have X := Lib.hid (RY.out.below HX.out); clear RY
      have RY := Lib.hid X.out; clear X
      have X := Lib.hid (RA.out.below HX.out); clear RA
      have RA := Lib.hid X.out; clear X
      have X := Lib.hid (RB.out.below HX.out); clear RB
      have RB := Lib.hid X.out; clear X
      have X := Lib.hid (B.out.trans (HX.out.mono B.out.size)); clear B
      have B := Lib.hid X.out; clear X
      clear HX
      have HJC := Lib.hid (join_comm a b)
      have HJH := Lib.hid (fun ha hb k (hk : k < a.length) => hasB_join (a := a) (b := b) ha hb hk)
      have HSJ := Lib.hid (fun W h1 h2 => sJoinIds_any a b Aa qa ka Ab qb kb W HQA.out HWA.out HQB.out HWB.out h1 h2 hka)
      have HIJ := Lib.hid (fun W h1 h2 => iJoinIds_any b a Ab qb kb Aa qa ka W HQB.out HWB.out HQA.out HWA.out h1 h2 hkb)
      rw [← HJC.out] at HIJ
      generalize fJoinIds a b = jj at *
      have RJ := Lib.hid hmj.rep.any; clear hmj HJC
      have HM5 := Lib.hid hm5; clear hm5
      go_upto_block 2 with fail
      go_cut [2, 18] from 127 to 147 (fun s2 s18 wx => Rep anyB wx (.sl 38 16 q2 (cat InstD.c m) .nil) [.slice A3 q2 k2] ∧ Rep anyB wx x.c csx ∧ Blk wx b13 38 csx.toArray ∧ Rep anyB wx (.sl 38 16 m4 (cat InstD.c y) .nil) [.slice A4 m4 c4] ∧ Rep anyB wx (.sl 26 2 qa (cat IdD.c a) .nil) [.slice Aa qa ka] ∧ Rep anyB wx (.sl 26 2 qb (cat IdD.c b) .nil) [.slice Ab qb kb] ∧ Rep anyB wx (.sl 26 2 m5 (cat IdD.c jj) .nil) [.slice A5 m5 c5] ∧ Below w.heap.size w wx)
      case first =>
        go_wp2_with fail
        go_loopw [18] (fun ii wr => ∃ j : Nat, j ≤ qa ∧ ii = .int .i64 (j : Int) ∧ Rep anyB wr (.sl 38 16 q2 (cat InstD.c m) .nil) [.slice A3 q2 k2] ∧ Rep anyB wr x.c csx ∧ Blk wr b13 38 csx.toArray ∧ Rep anyB wr (.sl 38 16 m4 (cat InstD.c y) .nil) [.slice A4 m4 c4] ∧ Rep anyB wr (.sl 26 2 qa (cat IdD.c a) .nil) [.slice Aa qa ka] ∧ Rep anyB wr (.sl 26 2 qb (cat IdD.c b) .nil) [.slice Ab qb kb] ∧ Rep anyB wr (.sl 26 2 m5 (cat IdD.c jj) .nil) [.slice A5 m5 c5] ∧ Below w.heap.size w wr) (fun ii _ => qa - (intOf ii).toNat)
        case atStart => exact ⟨0, Nat.zero_le _, rfl, RM.out, RX.out, XB.out, RY.out, RA.out, RB.out, RJ.out, B.out⟩
        case round =>
          obtain ⟨j, hj, rfl, hRM, hRX, hXB, hRY, hRA, hRB, hRJ, hB⟩ := hrel
          clear RM
          have RM := Lib.hid hRM; clear hRM
          clear RX
          have RX := Lib.hid hRX; clear hRX
          clear XB
          have XB := Lib.hid hXB; clear hXB
          clear RY
          have RY := Lib.hid hRY; clear hRY
          clear RA
          have RA := Lib.hid hRA; clear hRA
          clear RB
          have RB := Lib.hid hRB; clear hRB
          clear RJ
          have RJ := Lib.hid hRJ; clear hRJ
          clear B
          have B := Lib.hid hB; clear hB
          by_cases hlt : j < qa
          · have hd1 : (j : Int) < (qa : Int) := by omega
            have hjx : j < a.length := by have := HQA.out; omega
            go_wp2_with fail
            refine (sIdsOk_any a Aa qa ka _ HQA.out HWA.out RA.out).mono ?_
            rintro e w16 ⟨rfl, hb⟩
            have HX := Lib.hid hb; clear hb
            have X := Lib.hid (RM.out.below HX.out); clear RM
            have RM := Lib.hid X.out; clear X
            have X := Lib.hid (RX.out.below HX.out); clear RX
            have RX := Lib.hid X.out; clear X
            have X := Lib.hid (XB.out.below HX.out); clear XB
            have XB := Lib.hid X.out; clear X
            have X := Lib.hid (RY.out.below HX.out); clear RY
            have RY := Lib.hid X.out; clear X
            have X := Lib.hid (RA.out.below HX.out); clear RA
            have RA := Lib.hid X.out; clear X
            have X := Lib.hid (RB.out.below HX.out); clear RB
            have RB := Lib.hid X.out; clear X
            have X := Lib.hid (RJ.out.below HX.out); clear RJ
            have RJ := Lib.hid X.out; clear X
            have X := Lib.hid (B.out.trans (HX.out.mono B.out.size)); clear B
            have B := Lib.hid X.out; clear X
            clear HX
            cases hoa : idsOkB a with
            | false =>
              clear hoa
              go_wp2
              go_meet
              exact ⟨RM.out, RX.out, XB.out, RY.out, RA.out, RB.out, RJ.out, B.out⟩
            | true =>
              have HOA := Lib.hid hoa; clear hoa
              go_wp2_with fail
              refine (sIdsOk_any b Ab qb kb _ HQB.out HWB.out RB.out).mono ?_
              rintro e w17 ⟨rfl, hb⟩
              have HX := Lib.hid hb; clear hb
              have X := Lib.hid (RM.out.below HX.out); clear RM
              have RM := Lib.hid X.out; clear X
              have X := Lib.hid (RX.out.below HX.out); clear RX
              have RX := Lib.hid X.out; clear X
              have X := Lib.hid (XB.out.below HX.out); clear XB
              have XB := Lib.hid X.out; clear X
              have X := Lib.hid (RY.out.below HX.out); clear RY
              have RY := Lib.hid X.out; clear X
              have X := Lib.hid (RA.out.below HX.out); clear RA
              have RA := Lib.hid X.out; clear X
              have X := Lib.hid (RB.out.below HX.out); clear RB
              have RB := Lib.hid X.out; clear X
              have X := Lib.hid (RJ.out.below HX.out); clear RJ
              have RJ := Lib.hid X.out; clear X
              have X := Lib.hid (B.out.trans (HX.out.mono B.out.size)); clear B
              have B := Lib.hid X.out; clear X
              clear HX
              cases hob : idsOkB b with
              | false =>
                clear hob
                go_wp2
                go_meet
                exact ⟨RM.out, RX.out, XB.out, RY.out, RA.out, RB.out, RJ.out, B.out⟩
              | true =>
                have HH := Lib.hid (HJH.out HOA.out hob j hjx)
                clear hob
                obtain ⟨ad, ci, rfl, -, -, hrc, hl, hc⟩ := RA.out.elem IdD.width j hjx HQA.out
                obtain rfl := IdD.open hrc
                clear hrc hl
                generalize a[j] = z at *
                obtain ⟨zr, zs⟩ := z
                simp only [] at hc HH
                have CI := Lib.hid (show CellsAt w17 (ad.add (j * 2)) [.int .i64 zr, .int .i64 zs] from hc); clear hc
                go_wp2_with (first | ((with_reducible show wpList _ _ _ ({ dst := _, op := Op.load 26 _, type := _, pos := _, after := _, guard := _ } :: _) _ _); refine wpList_load_row _ (ad.add (j * 2)) rfl [.int .i64 _, .int .i64 _] agg_Id rfl CI.out ?_) | fail)
                clear CI
                refine (hasId_any jj ⟨zr, zs⟩ A5 m5 c5 [.int .i64 zr, .int .i64 zs] _ HM5.out (by have := HM5.out; omega) RJ.out (IdD.shut (x := ⟨zr, zs⟩))).mono ?_
                rintro e w18 ⟨rfl, hb⟩
                have HX := Lib.hid hb; clear hb
                have X := Lib.hid (RM.out.below HX.out); clear RM
                have RM := Lib.hid X.out; clear X
                have X := Lib.hid (RX.out.below HX.out); clear RX
                have RX := Lib.hid X.out; clear X
                have X := Lib.hid (XB.out.below HX.out); clear XB
                have XB := Lib.hid X.out; clear X
                have X := Lib.hid (RY.out.below HX.out); clear RY
                have RY := Lib.hid X.out; clear X
                have X := Lib.hid (RA.out.below HX.out); clear RA
                have RA := Lib.hid X.out; clear X
                have X := Lib.hid (RB.out.below HX.out); clear RB
                have RB := Lib.hid X.out; clear X
                have X := Lib.hid (RJ.out.below HX.out); clear RJ
                have RJ := Lib.hid X.out; clear X
                have X := Lib.hid (B.out.trans (HX.out.mono B.out.size)); clear B
                have B := Lib.hid X.out; clear X
                clear HX
                rw [HH.out]
                go_wp2
                exact ⟨⟨j + 1, by omega, by go_num, RM.out, RX.out, XB.out, RY.out, RA.out, RB.out, RJ.out, B.out⟩, by simp only [intOf]; omega⟩
          · have hd1 : ¬ (j : Int) < (qa : Int) := by omega
            go_wp2
            go_meet
            exact ⟨RM.out, RX.out, XB.out, RY.out, RA.out, RB.out, RJ.out, B.out⟩
      case rest =>
        obtain ⟨hRM, hRX, hXB, hRY, hRA, hRB, hRJ, hB⟩ := hcut
        clear RM
        have RM := Lib.hid hRM; clear hRM
        clear RX
        have RX := Lib.hid hRX; clear hRX
        clear XB
        have XB := Lib.hid hXB; clear hXB
        clear RY
        have RY := Lib.hid hRY; clear hRY
        clear RA
        have RA := Lib.hid hRA; clear hRA
        clear RB
        have RB := Lib.hid hRB; clear hRB
        clear RJ
        have RJ := Lib.hid hRJ; clear hRJ
        clear B
        have B := Lib.hid hB; clear hB
        go_wp2
        obtain ⟨tl, htl⟩ := HID2.out
        have HTL := Lib.hid htl; clear htl
        refine wp_region_x 30 [0, 1, 2, 3, 4, 5, 6, 7, 8, 9, 10, 11, 12, 13, 14, 15, 16, 17, 18, 19, 21, 20, 22, 23, 24, 25, 26, 27, 28, 29] (by kernel_rfl) (by kernel_rfl) ?_
        have X := Lib.hid (RM.out.drew); clear RM
        have RM := Lib.hid X.out; clear X
        have X := Lib.hid (RX.out.drew); clear RX
        have RX := Lib.hid X.out; clear X
        have X := Lib.hid (XB.out.drew); clear XB
        have XB := Lib.hid X.out; clear X
        have X := Lib.hid (RY.out.drew); clear RY
        have RY := Lib.hid X.out; clear X
        have X := Lib.hid (RA.out.drew); clear RA
        have RA := Lib.hid X.out; clear X
        have X := Lib.hid (RB.out.drew); clear RB
        have RB := Lib.hid X.out; clear X
        have X := Lib.hid (RJ.out.drew); clear RJ
        have RJ := Lib.hid X.out; clear X
        have X := Lib.hid (B.out.drew); clear B
        have B := Lib.hid X.out; clear X
        generalize wc.drew = w20 at RM RX XB RY RA RB RJ B ⊢
        iterate 1 (refine wpX_quiet rfl (by kernel_rfl) rfl ?_; go_wp2; refine ⟨rfl, ?_⟩)
        have HYV := Lib.hid (show m4 + (cat InstD.c y).wt ≤ 1048576 from by have h1 := HYW.out; have h2 := HM4.out; omega)
        refine wpX_actor rfl (by kernel_rfl) ?_; go_wp2_with fail
        refine (sInstsOk_any y A4 m4 c4 _ HM4.out HYV.out RY.out).mono ?_
        rintro e w21 ⟨rfl, hb⟩
        have HX := Lib.hid hb; clear hb
        rw [HYG2.out]
        have X := Lib.hid (RM.out.below HX.out); clear RM
        have RM := Lib.hid X.out; clear X
        have X := Lib.hid (RX.out.below HX.out); clear RX
        have RX := Lib.hid X.out; clear X
        have X := Lib.hid (XB.out.below HX.out); clear XB
        have XB := Lib.hid X.out; clear X
        have X := Lib.hid (RY.out.below HX.out); clear RY
        have RY := Lib.hid X.out; clear X
        have X := Lib.hid (RA.out.below HX.out); clear RA
        have RA := Lib.hid X.out; clear X
        have X := Lib.hid (RB.out.below HX.out); clear RB
        have RB := Lib.hid X.out; clear X
        have X := Lib.hid (RJ.out.below HX.out); clear RJ
        have RJ := Lib.hid X.out; clear X
        have X := Lib.hid (B.out.trans (HX.out.mono B.out.size)); clear B
        have B := Lib.hid X.out; clear X
        go_wp2; refine ⟨Ext.of_below HX.out, ?_⟩
        clear HX
        iterate 4 (refine wpX_quiet rfl (by kernel_rfl) rfl ?_; go_wp2; refine ⟨rfl, ?_⟩)
        refine wpX_actor rfl (by kernel_rfl) ?_; go_wp2_with fail
        refine (HSJ.out _ RA.out RB.out).mono ?_
        rintro e w22 ⟨A6, m6, c6, rfl, hm6, hmj, hb⟩
        have HX := Lib.hid hb; clear hb
        have HM6 := Lib.hid hm6; clear hm6
        have X := Lib.hid (RM.out.below HX.out); clear RM
        have RM := Lib.hid X.out; clear X
        have X := Lib.hid (RX.out.below HX.out); clear RX
        have RX := Lib.hid X.out; clear X
        have X := Lib.hid (XB.out.below HX.out); clear XB
        have XB := Lib.hid X.out; clear X
        have X := Lib.hid (RY.out.below HX.out); clear RY
        have RY := Lib.hid X.out; clear X
        have X := Lib.hid (RA.out.below HX.out); clear RA
        have RA := Lib.hid X.out; clear X
        have X := Lib.hid (RB.out.below HX.out); clear RB
        have RB := Lib.hid X.out; clear X
        have X := Lib.hid (RJ.out.below HX.out); clear RJ
        have RJ := Lib.hid X.out; clear X
        have X := Lib.hid (B.out.trans (HX.out.mono B.out.size)); clear B
        have B := Lib.hid X.out; clear X
        have RJ2 := Lib.hid hmj.rep.any; clear hmj HSJ
        go_wp2; refine ⟨Ext.of_below HX.out, ?_⟩
        clear HX
        refine wpX_actor rfl (by kernel_rfl) ?_; go_wp2_with fail
        refine (sameIds_any jj jj A5 A6 m5 m6 c5 c6 _ HM5.out HM6.out (by have := HM5.out; omega) (by have := HM6.out; omega) RJ.out RJ2.out).mono ?_
        rintro e w23 ⟨rfl, hb⟩
        have HX := Lib.hid hb; clear hb
        rw [decide_eq_true (rfl : jj = jj)]
        have X := Lib.hid (RM.out.below HX.out); clear RM
        have RM := Lib.hid X.out; clear X
        have X := Lib.hid (RX.out.below HX.out); clear RX
        have RX := Lib.hid X.out; clear X
        have X := Lib.hid (XB.out.below HX.out); clear XB
        have XB := Lib.hid X.out; clear X
        have X := Lib.hid (RY.out.below HX.out); clear RY
        have RY := Lib.hid X.out; clear X
        have X := Lib.hid (RA.out.below HX.out); clear RA
        have RA := Lib.hid X.out; clear X
        have X := Lib.hid (RB.out.below HX.out); clear RB
        have RB := Lib.hid X.out; clear X
        have X := Lib.hid (RJ.out.below HX.out); clear RJ
        have RJ := Lib.hid X.out; clear X
        have X := Lib.hid (RJ2.out.below HX.out); clear RJ2
        have RJ2 := Lib.hid X.out; clear X
        have X := Lib.hid (B.out.trans (HX.out.mono B.out.size)); clear B
        have B := Lib.hid X.out; clear X
        go_wp2; refine ⟨Ext.of_below HX.out, ?_⟩
        clear HX
        clear RJ2 HM6
        iterate 5 (refine wpX_quiet rfl (by kernel_rfl) rfl ?_; go_wp2; refine ⟨rfl, ?_⟩)
        refine wpX_actor rfl (by kernel_rfl) ?_; go_wp2_with fail
        refine (HIJ.out _ RB.out RA.out).mono ?_
        rintro e w24 ⟨A7, m7, c7, rfl, hm7, hmj, hb⟩
        have HX := Lib.hid hb; clear hb
        have HM7 := Lib.hid hm7; clear hm7
        have X := Lib.hid (RM.out.below HX.out); clear RM
        have RM := Lib.hid X.out; clear X
        have X := Lib.hid (RX.out.below HX.out); clear RX
        have RX := Lib.hid X.out; clear X
        have X := Lib.hid (XB.out.below HX.out); clear XB
        have XB := Lib.hid X.out; clear X
        have X := Lib.hid (RY.out.below HX.out); clear RY
        have RY := Lib.hid X.out; clear X
        have X := Lib.hid (RA.out.below HX.out); clear RA
        have RA := Lib.hid X.out; clear X
        have X := Lib.hid (RB.out.below HX.out); clear RB
        have RB := Lib.hid X.out; clear X
        have X := Lib.hid (RJ.out.below HX.out); clear RJ
        have RJ := Lib.hid X.out; clear X
        have X := Lib.hid (B.out.trans (HX.out.mono B.out.size)); clear B
        have B := Lib.hid X.out; clear X
        have RJ3 := Lib.hid hmj.rep.any; clear hmj HIJ
        go_wp2; refine ⟨Ext.of_below HX.out, ?_⟩
        clear HX
        refine wpX_actor rfl (by kernel_rfl) ?_; go_wp2_with fail
        refine (sameIds_any jj jj A5 A7 m5 m7 c5 c7 _ HM5.out HM7.out (by have := HM5.out; omega) (by have := HM7.out; omega) RJ.out RJ3.out).mono ?_
        rintro e w25 ⟨rfl, hb⟩
        have HX := Lib.hid hb; clear hb
        rw [decide_eq_true (rfl : jj = jj)]
        have X := Lib.hid (RM.out.below HX.out); clear RM
        have RM := Lib.hid X.out; clear X
        have X := Lib.hid (RX.out.below HX.out); clear RX
        have RX := Lib.hid X.out; clear X
        have X := Lib.hid (XB.out.below HX.out); clear XB
        have XB := Lib.hid X.out; clear X
        have X := Lib.hid (RY.out.below HX.out); clear RY
        have RY := Lib.hid X.out; clear X
        have X := Lib.hid (RA.out.below HX.out); clear RA
        have RA := Lib.hid X.out; clear X
        have X := Lib.hid (RB.out.below HX.out); clear RB
        have RB := Lib.hid X.out; clear X
        have X := Lib.hid (RJ.out.below HX.out); clear RJ
        have RJ := Lib.hid X.out; clear X
        have X := Lib.hid (RJ3.out.below HX.out); clear RJ3
        have RJ3 := Lib.hid X.out; clear X
        have X := Lib.hid (B.out.trans (HX.out.mono B.out.size)); clear B
        have B := Lib.hid X.out; clear X
        go_wp2; refine ⟨Ext.of_below HX.out, ?_⟩
        clear HX
        clear RJ3 HM7
        iterate 4 (refine wpX_quiet rfl (by kernel_rfl) rfl ?_; go_wp2; refine ⟨rfl, ?_⟩)
        refine wpX_quiet rfl (by kernel_rfl) rfl ?_; go_wp2_with (first | (refine wpList_load_row_g _ (by rfl) ⟨b13, 0, none⟩ rfl [.int .i64 x.id.rep, .int .i64 x.id.slot] agg_Id rfl (fun f v hv => blk_cells XB.out f v (by rw [HTL.out]; match f, hv with | 0, h => exact h | 1, h => exact h)) ?_) | fail); refine ⟨rfl, ?_⟩
        refine wpX_quiet rfl (by kernel_rfl) rfl ?_; go_wp2_with (first | (refine wpList_load_row_g _ (by rfl) ⟨b13, 0, none⟩ rfl csx agg_Inst HX16.out (blk_cells XB.out) ?_) | fail); refine ⟨rfl, ?_⟩
        refine wpX_actor rfl (by kernel_rfl) ?_; go_wp2_with fail
        refine (iInstAt_any y x.id A4 m4 c4 [.int .i64 x.id.rep, .int .i64 x.id.slot] _ HM4.out HYV.out (Nat.zero_le _) RY.out (IdD.shut (x := x.id))).mono ?_
        rintro e w26 ⟨csz, rfl, hmz, hb⟩
        have HX := Lib.hid hb; clear hb
        have X := Lib.hid (RM.out.below HX.out); clear RM
        have RM := Lib.hid X.out; clear X
        have X := Lib.hid (RX.out.below HX.out); clear RX
        have RX := Lib.hid X.out; clear X
        have X := Lib.hid (XB.out.below HX.out); clear XB
        have XB := Lib.hid X.out; clear X
        have X := Lib.hid (RY.out.below HX.out); clear RY
        have RY := Lib.hid X.out; clear X
        have X := Lib.hid (RA.out.below HX.out); clear RA
        have RA := Lib.hid X.out; clear X
        have X := Lib.hid (RB.out.below HX.out); clear RB
        have RB := Lib.hid X.out; clear X
        have X := Lib.hid (RJ.out.below HX.out); clear RJ
        have RJ := Lib.hid X.out; clear X
        have X := Lib.hid (B.out.trans (HX.out.mono B.out.size)); clear B
        have B := Lib.hid X.out; clear X
        have RZ := Lib.hid hmz.rep.any; clear hmz
        go_wp2; refine ⟨Ext.of_below HX.out, ?_⟩
        clear HX
        have hzw := at_wt (l := y) x.id (fun q hq => by have h1 := cat_wt_le (f := InstD.c) hq; have h2 := HYW.out; omega)
        have HP := Lib.hid (fun (h : instSame (fInstAt y x.id) x = false) => HYA2.out.resolve_left (fun e => by rw [e, instSame_self] at h; cases h))
        generalize fInstAt y x.id = z at *
        refine wpX_actor rfl (by kernel_rfl) ?_; go_wp2_with fail
        refine (sameInst_any z csz x csx _ (by omega) (by omega) RZ.out RX.out).mono ?_
        rintro e w27 ⟨rfl, hb⟩
        have HX := Lib.hid hb; clear hb
        have X := Lib.hid (RM.out.below HX.out); clear RM
        have RM := Lib.hid X.out; clear X
        have X := Lib.hid (RX.out.below HX.out); clear RX
        have RX := Lib.hid X.out; clear X
        have X := Lib.hid (XB.out.below HX.out); clear XB
        have XB := Lib.hid X.out; clear X
        have X := Lib.hid (RY.out.below HX.out); clear RY
        have RY := Lib.hid X.out; clear X
        have X := Lib.hid (RA.out.below HX.out); clear RA
        have RA := Lib.hid X.out; clear X
        have X := Lib.hid (RB.out.below HX.out); clear RB
        have RB := Lib.hid X.out; clear X
        have X := Lib.hid (RJ.out.below HX.out); clear RJ
        have RJ := Lib.hid X.out; clear X
        have X := Lib.hid (RZ.out.below HX.out); clear RZ
        have RZ := Lib.hid X.out; clear X
        have X := Lib.hid (B.out.trans (HX.out.mono B.out.size)); clear B
        have B := Lib.hid X.out; clear X
        clear RZ
        cases hp : instSame z x with
        | true =>
          clear hp
          go_wp2; refine ⟨Ext.of_below HX.out, ?_⟩
          clear HX
          iterate 1 (refine wpX_quiet rfl (by kernel_rfl) rfl ?_; go_wp2; refine ⟨rfl, ?_⟩)
          (iterate 3 (refine wpX_skip2 rfl rfl (by kernel_rfl) ?_)); simp only [List.setIfInBounds_toArray, List.set_cons_succ, List.set_cons_zero]
          iterate 3 (refine wpX_quiet rfl (by kernel_rfl) rfl ?_; go_wp2; refine ⟨rfl, ?_⟩)
          refine wpX_nil ?_; try simp only [List.drop_succ_cons, List.drop_zero]
          go_wp2
          go_ret
          exact ⟨ret_eq (by first | rfl | simp), B.out⟩
        | false =>
          have HPM := Lib.hid (HP.out hp); clear hp
          go_wp2; refine ⟨Ext.of_below HX.out, ?_⟩
          clear HX
          iterate 3 (refine wpX_quiet rfl (by kernel_rfl) rfl ?_; go_wp2; refine ⟨rfl, ?_⟩)
          refine wpX_actor rfl (by kernel_rfl) ?_; go_wp2_with fail
          refine (sameInsts_any y m A4 A3 m4 q2 c4 k2 _ HM4.out HQ2.out HYV.out HMW.out RY.out RM.out).mono ?_
          rintro e w28 ⟨bb, rfl, himp, hb⟩
          have HX := Lib.hid hb; clear hb
          obtain rfl := himp HPM.out
          clear himp
          have X := Lib.hid (RM.out.below HX.out); clear RM
          have RM := Lib.hid X.out; clear X
          have X := Lib.hid (RX.out.below HX.out); clear RX
          have RX := Lib.hid X.out; clear X
          have X := Lib.hid (XB.out.below HX.out); clear XB
          have XB := Lib.hid X.out; clear X
          have X := Lib.hid (RY.out.below HX.out); clear RY
          have RY := Lib.hid X.out; clear X
          have X := Lib.hid (RA.out.below HX.out); clear RA
          have RA := Lib.hid X.out; clear X
          have X := Lib.hid (RB.out.below HX.out); clear RB
          have RB := Lib.hid X.out; clear X
          have X := Lib.hid (RJ.out.below HX.out); clear RJ
          have RJ := Lib.hid X.out; clear X
          have X := Lib.hid (B.out.trans (HX.out.mono B.out.size)); clear B
          have B := Lib.hid X.out; clear X
          go_wp2; refine ⟨Ext.of_below HX.out, ?_⟩
          clear HX
          iterate 3 (refine wpX_quiet rfl (by kernel_rfl) rfl ?_; go_wp2; refine ⟨rfl, ?_⟩)
          refine wpX_nil ?_; try simp only [List.drop_succ_cons, List.drop_zero]
          go_wp2
          go_ret
          exact ⟨ret_eq (by first | rfl | simp), B.out⟩
set_option maxRecDepth 100000 in
theorem FnInsts_lifted (os : Os) (started : os.Started) (H : Type) (enc : TypeId × Value → H) :
    ReturnsInHanded {} Tryz.checked os 3 .any (Rows.fnInstsSpec.pre6 enc Tryz.prog Tryz.f3 Rows.fnInstsRow.domain false) (Rows.fnInstsSpec.post enc Tryz.prog Tryz.f3 false true false false) := by
  refine returnsInHanded_of_change (C := Tryz.checked) own started (by kernel_rfl) Tryz.func3
    (ChangeSpec.witness6 (enc := enc) (C := Tryz.checked) false ⟨#[], #[.slice none 0 0], []⟩ 8 (by kernel_rfl) (by kernel_rfl) (by kernel_rfl) (by kernel_rfl)) ?_
  intro W base args ds gs before hval0 hW _ _
  have hval : ∀ (j : Nat) t v, Tryz.f3.params[j]? = some t → args[j]? = some v → Value.okWide Tryz.prog W .any base t v := hval0
  have hW' := hW
  obtain ⟨p, q, hA0, hV, rfl, hfz, hnd⟩ := hW
  have hA : DataW.TrodAll enc Tryz.prog W 0 (fun _ => true) true Tryz.f3.params.toList args.toList ds p := hA0
  rw [Tryz.params3] at hA hval
  obtain ⟨v0, vs0, d0, ds0, p0, q0, hargs, rfl, rfl, h0, r0⟩ := trodAll_cons hA
  obtain ⟨rfl, rfl, rfl⟩ := trodAll_nil r0
  obtain rfl : args = #[v0] := Array.ext' hargs
  obtain ⟨xs, a0, len0, cap0, rfl, hn0, hrd⟩ := open_bytes (okWide_slice Tryz.underlying22 (hval 0 22 v0 rfl rfl)) h0
  refine (lFnInsts_all a0 len0 cap0 xs W hrd).mono fun e W' ⟨he, hb⟩ => ?_
  subst he
  refine ⟨_, rfl, law_post (tb := 4) laidOut (by kernel_rfl) rfl Tryz.underlying4 rfl ?_ hW' hb⟩
  intro ds hl
  rw [Tryz.params3] at hl
  match ds, hl with
  | [_], _ => rfl
theorem FnInsts_holds : Rows.FnInstsSaid :=
  OpenClaim.holds_of_wide 3 Tryz.f3 rfl rfl rfl rfl rfl rfl rfl ⟨rfl, rfl, rfl, rfl, rfl⟩ rfl rfl rfl rfl rfl (by kernel_rfl) Tryz.func3 (by kernel_rfl)
    (of_decide_eq_true (by kernel_rfl)) (by unfold Func.isWrapper; first | (rw [if_pos (by decide +kernel)]; kernel_rfl) | (rw [if_neg (by decide +kernel)]; exact ⟨rfl, rfl⟩))
    (fun os started H enc _ => FnInsts_lifted os started H enc)
end Go.Proofs.YtonaacdefidomaaGreat
