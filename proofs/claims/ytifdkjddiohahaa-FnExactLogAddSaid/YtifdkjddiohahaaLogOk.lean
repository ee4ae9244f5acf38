/-
  Right logs: impl.LogOk and spec.LogOk. Conditions: a bound on the sizes.
-/
import Derived.Test.YtifdkjddiohahaaEq
import Derived.Test.YtifdkjddiohahaaUnframeS
namespace Go.Proofs.Ytifdkjddiohahaa
open Go.RowKit

def cntU (s : List UInt8) : Nat := (unframeL s).1.length
def endU (s : List UInt8) : Nat := (unframeL s).2
def segsF (mark : Int) : List SegD → Int → Option Int
  | [], a => some a
  | s :: rest, a =>
    if ¬ endU s.text = s.text.length ∨ (60 < s.text.length ∧ ¬ cntU s.text = 1) ∨ ¬ s.first = a then none
    else if ¬ rest.length = 0 ∧ (cntU s.text = 0 ∨ a + cntU s.text - 1 ≤ mark) then none
    else segsF mark rest (a + cntU s.text)
def fstL (l : LogD) : Int := match l.segs with | [] => 0 | s :: _ => s.first
def LogGood (l : LogD) : Prop := 1 ≤ l.segs.length ∧ l.segs.length ≤ 6 ∧ 1 ≤ fstL l ∧ fstL l ≤ 1000 ∧ segsF l.mark l.segs (fstL l) = some l.next ∧ l.next ≤ 1000 ∧ 0 ≤ l.mark ∧ l.mark < l.next
open Classical in
noncomputable def logOkB (l : LogD) : Bool := decide (LogGood l)
theorem logOk_yes {l : LogD} (h : LogGood l) : logOkB l = true := by simp [logOkB, h]
theorem logOk_no {l : LogD} (h : ¬ LogGood l) : logOkB l = false := by simp [logOkB, h]
theorem logOk_iff {l : LogD} : logOkB l = true ↔ LogGood l := by simp [logOkB]
theorem segsF_1 {mark a : Int} {s : SegD} {rest : List SegD} (h : ¬ endU s.text = s.text.length ∨ (60 < s.text.length ∧ ¬ cntU s.text = 1) ∨ ¬ s.first = a) : segsF mark (s :: rest) a = none := by rw [segsF, if_pos h]
theorem segsF_2 {mark a : Int} {s : SegD} {rest : List SegD} (h2 : ¬ rest.length = 0 ∧ (cntU s.text = 0 ∨ a + cntU s.text - 1 ≤ mark)) : segsF mark (s :: rest) a = none := by
  rw [segsF]
  split
  · rfl
  · first | rfl | rw [if_pos h2]
theorem segsF_3 {mark a : Int} {s : SegD} {rest : List SegD} (h : ¬ (¬ endU s.text = s.text.length ∨ (60 < s.text.length ∧ ¬ cntU s.text = 1) ∨ ¬ s.first = a)) (h2 : ¬ (¬ rest.length = 0 ∧ (cntU s.text = 0 ∨ a + cntU s.text - 1 ≤ mark))) : segsF mark (s :: rest) a = segsF mark rest (a + cntU s.text) := by rw [segsF, if_neg h, if_neg h2]
theorem unfr_len2 : ∀ (f : Nat) (s : List UInt8), (unfr f s).1.length ≤ s.length
  | 0, s => by simp [unfr]
  | f + 1, s => by
    cases h : frame1 s with
    | none => rw [unfr_none h]; simp
    | some t =>
      obtain ⟨_, h5, hne, hle, _⟩ := frame1_some h
      obtain ⟨_, hge⟩ := frameL_ne hne
      have := unfr_len2 f (s.drop (frameL t).length)
      rw [List.length_drop] at this
      rw [unfr_some h]
      simp only [List.length_cons]
      omega
theorem fstL_get : ∀ {l : LogD} (h : 0 < l.segs.length), (l.segs[0]).first = fstL l
  | ⟨[], _, _⟩, h => absurd h (by simp)
  | ⟨s :: r, _, _⟩, _ => rfl
theorem cntU_le (s : List UInt8) : cntU s ≤ s.length := by
  unfold cntU
  rw [unframeL_eq]
  exact unfr_len2 _ _
theorem addr_add0 (a : Addr) : a.add 0 = a := by
  obtain ⟨b, o, v⟩ := a
  unfold Addr.add
  split <;> simp_all
theorem inB_f {lo hi x : Int} (h : inB lo hi x = false) : ¬ (lo ≤ x ∧ x ≤ hi) := by simpa [inB] using h
theorem inB_t {lo hi x : Int} (h : inB lo hi x = true) : lo ≤ x ∧ x ≤ hi := by simpa [inB] using h
theorem seg_wt_le {xs : List SegD} (j : Nat) (hj : j < xs.length) : xs[j].text.length ≤ (cat SegD.c xs).wt := by
  have h := cat_wt_le (f := SegD.c) (List.getElem_mem hj)
  have e : (xs[j].c).wt = xs[j].text.length + 0 := rfl
  omega


set_option maxRecDepth 100000 in
set_option maxHeartbeats 4000000 in
theorem iLogOk_any (x : LogD) (cs : List Value) (w : World) (hwt : x.c.wt ≤ 1048576) (h : Rep anyB w x.c cs) :
    Calls Try.prog 43 #[.agg cs.toArray] w fun e w' => e = .returned (.bool (logOkB x)) ∧ Below w.heap.size w w' := by
  have hw0 : x.c.wt = x.segs.length + (cat SegD.c x.segs).wt + 0 := rfl
  obtain ⟨A0, k0, rfl, s0⟩ := LogD.open h
  have hY := @logOk_yes x
  have hN := @logOk_no x
  obtain ⟨R, hR⟩ : ∃ R, R = logOkB x := ⟨_, rfl⟩
  rw [← hR] at hY hN ⊢
  clear hR
  unfold LogGood at hY hN
  obtain ⟨fi, hfi⟩ : ∃ f, f = fstL x := ⟨_, rfl⟩
  rw [← hfi] at hY hN
  obtain ⟨segs, next, mark⟩ := x
  simp only [] at s0 hw0 hY hN ⊢
  obtain ⟨V, hV⟩ : ∃ V, V = segsF mark segs fi := ⟨_, rfl⟩
  rw [← hV] at hY hN
  have HFI := Lib.hid hfi; clear hfi
  have HV := Lib.hid hV; clear hV
  have HY := Lib.hid hY; clear hY
  have HNO := Lib.hid hN; clear hN
  obtain ⟨n, hn⟩ : ∃ n, n = segs.length := ⟨_, rfl⟩
  rw [← hn] at s0 hw0 HY HNO ⊢
  have HN := Lib.hid hn; clear hn
  have S0 := Lib.hid s0; clear s0
  have hWb : n + (cat SegD.c segs).wt ≤ 1048576 := by omega
  have HW := Lib.hid hWb
  have hn1 : n ≤ 1048576 := by omega
  clear h hw0 hwt hWb
  have SB := Lib.hid (show Blk (w.alloc (.cells #[.slice A0 n k0, .int .i64 next, .int .i64 mark] 46)) w.heap.size 46 [.slice A0 n k0, .int .i64 next, .int .i64 mark].toArray from blk_new _ _ _)
  go_enter Try.func43, Try.ntmps43
  go_wp2_with fail
  refine (within_any _ _ _ _).mono ?_; rintro e w' ⟨rfl, rfl⟩
  cases hb : inB _ _ _
  case false =>
    have hin := inB_f hb
    clear hb
    go_wp2
    go_ret
    exact ⟨ret_eq (congrArg Value.bool (HNO.out (by rintro ⟨h1, h2, _⟩; omega)).symm), (by repeat' (first | with_reducible exact Below.refl _ _ | with_reducible exact BW.out | with_reducible refine Below.setCell ?_ ?_ _ | with_reducible refine Below.alloc ?_ ?_ _ | with_reducible refine Below.drew ?_ | (simp; done) | (simp; omega) | omega))⟩
  have hin := inB_t hb
  clear hb
  have hn0 : 0 < segs.length := by have := HN.out; omega
  obtain ⟨ad, ci, rfl, _, _, hrc, hl, hc⟩ := (S0.out.below (show Below w.heap.size w (w.alloc (.cells #[.slice A0 n k0, .int .i64 next, .int .i64 mark] 46)) from (by repeat' (first | with_reducible exact Below.refl _ _ | with_reducible exact BW.out | with_reducible refine Below.setCell ?_ ?_ _ | with_reducible refine Below.alloc ?_ ?_ _ | with_reducible refine Below.drew ?_ | (simp; done) | (simp; omega) | omega)))).elem SegD.width 0 hn0 HN.out
  obtain rfl := SegD.open hrc
  have hf0 : segs[0].first = fi := by rw [HFI.out]; exact fstL_get (l := ⟨segs, next, mark⟩) hn0
  rw [hf0] at hc
  have hc0 := hc 0 _ rfl
  rw [Nat.zero_mul, addr_add0, addr_add0] at hc0
  clear hc hrc hl hf0
  have HIN := Lib.hid hin
  go_wp2
  all_goals try (go_ret; exact ⟨ret_eq (congrArg Value.bool (HNO.out (by rintro ⟨h1, h2, h3, h4, _⟩; omega)).symm), (by repeat' (first | with_reducible exact Below.refl _ _ | with_reducible exact BW.out | with_reducible refine Below.setCell ?_ ?_ _ | with_reducible refine Below.alloc ?_ ?_ _ | with_reducible refine Below.drew ?_ | (simp; done) | (simp; omega) | omega))⟩)
  have hV0 : segsF mark (segs.drop 0) fi = V := by rw [List.drop_zero]; exact HV.out.symm
  have HV0 := Lib.hid hV0; clear hV0
  clear hc0
  have hk1 : 1 ≤ fi := by omega
  have hk2 : fi ≤ 1000 := by omega
  go_loopw [4, 39] (fun aa ii wr => ∃ (j : Nat) (a : Int), j ≤ n ∧ ii = .int .i64 (j : Int) ∧ aa = .int .i64 a ∧ 1 ≤ a ∧ a ≤ 1000 + j * 1048576 ∧ segsF mark (segs.drop j) a = V ∧ Blk wr w.heap.size 46 [.slice (some ad) n k0, .int .i64 next, .int .i64 mark].toArray ∧ Below w.heap.size w wr) (fun _ ii _ => n - (intOf ii).toNat)
  case atStart => exact ⟨0, fi, Nat.zero_le _, rfl, rfl, hk1, by omega, HV0.out, SB.out, (by repeat' (first | with_reducible exact Below.refl _ _ | with_reducible exact BW.out | with_reducible refine Below.setCell ?_ ?_ _ | with_reducible refine Below.alloc ?_ ?_ _ | with_reducible refine Below.drew ?_ | (simp; done) | (simp; omega) | omega))⟩
  case round =>
    obtain ⟨j, a, hj, rfl, rfl, ha1, ha2, hv, hsb, hbw⟩ := hrel
    clear SB
    have SB := Lib.hid hsb; clear hsb
    have BW := Lib.hid hbw; clear hbw
    have hs0 : World.cell? wr ⟨w.heap.size, 0, none⟩ = some (.slice (some ad) n k0) := blk_cell0 (L := [.slice (some ad) n k0, .int .i64 next, .int .i64 mark]) SB.out 0 rfl
    have hs1 : World.cell? wr ⟨w.heap.size, 1, none⟩ = some (.int .i64 next) := blk_cell0 (L := [.slice (some ad) n k0, .int .i64 next, .int .i64 mark]) SB.out 1 rfl
    have hs2 : World.cell? wr ⟨w.heap.size, 2, none⟩ = some (.int .i64 mark) := blk_cell0 (L := [.slice (some ad) n k0, .int .i64 next, .int .i64 mark]) SB.out 2 rfl
    by_cases hlt : j < n
    · have hjx : j < segs.length := by have := HN.out; omega
      obtain ⟨ad', ci, he, _, _, hrc, hl, hc⟩ := (S0.out.below BW.out).elem SegD.width j hjx HN.out
      injection he with he
      subst he
      obtain rfl := SegD.open hrc
      have hwl := seg_wt_le j hjx
      have hdr : segs.drop j = segs[j] :: segs.drop (j + 1) := List.drop_eq_getElem_cons hjx
      rw [hdr] at hv
      have hrl : (segs.drop (j + 1)).length = n - (j + 1) := by rw [List.length_drop, HN.out]
      have h1 := @segsF_1 mark a segs[j] (segs.drop (j + 1))
      have h2 := @segsF_2 mark a segs[j] (segs.drop (j + 1))
      have h3 := @segsF_3 mark a segs[j] (segs.drop (j + 1))
      rw [hv] at h1 h2 h3
      rw [hrl] at h2 h3
      clear hv hdr hrl hrc hl
      generalize segs[j] = s at *
      obtain ⟨fj, txt⟩ := s
      simp only [] at hwl hc h1 h2 h3
      have hun := fun W => iUnframe_any txt W (by have := HW.out; omega)
      have hcu := cntU_le txt
      simp only [cntU, endU] at h1 h2 h3 hcu
      generalize unframeL txt = U at *
      obtain ⟨ul, en⟩ := U
      simp only [] at h1 h2 h3 hun hcu
      generalize ul.length = ulen at *
      have H1 := Lib.hid h1; clear h1
      have H2 := Lib.hid h2; clear h2
      have H3 := Lib.hid h3; clear h3
      have HUN := Lib.hid hun; clear hun
      have HC := Lib.hid hc; clear hc
      have hb1 : ulen ≤ 1048576 := by have := HW.out; omega
      have hb2 : txt.length ≤ 1048576 := by have := HW.out; omega
      clear hwl hcu
      go_wp2_with (first | ((with_reducible show wpList _ _ _ ({ dst := _, op := Op.load 90 _, type := _, pos := _, after := _, guard := _ } :: _) _ _); refine wpList_load_row _ (ad.add (j * 2)) rfl [.int .i64 fj, .string (bs txt)] agg_Seg rfl HC.out ?_) | fail)
      refine (HUN.out _).mono ?_; rintro e w2 ⟨v, rfl, hown, hb⟩
      obtain ⟨Au, cu, rfl, _⟩ := SlR.of_own hown
      clear hown
      have LB := Lib.hid (show Blk w2 wr.heap.size 90 [.int .i64 fj, .string (bs txt)].toArray from Blk.below (blk_new _ _ _) hb)
      have X := Lib.hid (show Blk w2 w.heap.size 46 [.slice (some ad) n k0, .int .i64 next, .int .i64 mark].toArray from (SB.out.alloc _).below hb); clear SB
      have SB := Lib.hid X.out; clear X
      have hbw2 : Below w.heap.size w w2 := (BW.out.alloc BW.out.size _).trans (hb.mono (by have := BW.out.size; first | (simp; done) | (simp; omega)))
      clear BW hb
      have BW := Lib.hid hbw2; clear hbw2
      clear hs0 hs1 hs2 HC
      have hs0 : World.cell? w2 ⟨w.heap.size, 0, none⟩ = some (.slice (some ad) n k0) := blk_cell0 (L := [.slice (some ad) n k0, .int .i64 next, .int .i64 mark]) SB.out 0 rfl
      have hs1 : World.cell? w2 ⟨w.heap.size, 1, none⟩ = some (.int .i64 next) := blk_cell0 (L := [.slice (some ad) n k0, .int .i64 next, .int .i64 mark]) SB.out 1 rfl
      have hs2 : World.cell? w2 ⟨w.heap.size, 2, none⟩ = some (.int .i64 mark) := blk_cell0 (L := [.slice (some ad) n k0, .int .i64 next, .int .i64 mark]) SB.out 2 rfl
      have ht0 : World.cell? w2 ⟨wr.heap.size, 0, none⟩ = some (.int .i64 fj) := blk_cell0 (L := [.int .i64 fj, .string (bs txt)]) LB.out 0 rfl
      have ht1 : World.cell? w2 ⟨wr.heap.size, 1, none⟩ = some (.string (bs txt)) := blk_cell0 (L := [.int .i64 fj, .string (bs txt)]) LB.out 1 rfl
      go_wp2
      all_goals first
        | (go_ret
           exact ⟨ret_eq (congrArg Value.bool (HNO.out (by rintro ⟨_, _, _, _, h5, _⟩; first | (rw [H1.out (by first | omega | (simp only [bne_iff_ne, ne_eq, bne_eq_false_iff_eq, beq_iff_eq, beq_eq_false_iff_ne, Bool.or_eq_true, Bool.and_eq_true, decide_eq_true_eq, Bool.or_eq_false_iff, decide_eq_false_iff_not] at *; omega))] at h5; cases h5) | (rw [H2.out (by first | omega | (simp only [bne_iff_ne, ne_eq, bne_eq_false_iff_eq, beq_iff_eq, beq_eq_false_iff_ne, Bool.or_eq_true, Bool.and_eq_true, decide_eq_true_eq, Bool.or_eq_false_iff, decide_eq_false_iff_not] at *; omega))] at h5; cases h5))).symm), BW.out⟩)
        | exact ⟨⟨j + 1, _, by omega, by go_num, rfl, by omega, by omega, ((H3.out (by first | omega | (simp only [bne_iff_ne, ne_eq, bne_eq_false_iff_eq, beq_iff_eq, beq_eq_false_iff_ne, Bool.or_eq_true, Bool.and_eq_true, decide_eq_true_eq, Bool.or_eq_false_iff, decide_eq_false_iff_not] at *; omega)) (by first | omega | (simp only [bne_iff_ne, ne_eq, bne_eq_false_iff_eq, beq_iff_eq, beq_eq_false_iff_ne, Bool.or_eq_true, Bool.and_eq_true, decide_eq_true_eq, Bool.or_eq_false_iff, decide_eq_false_iff_not] at *; omega))).trans (by first | rfl | (congr 1; omega))).symm, SB.out, BW.out⟩, by simp only [intOf]; omega⟩
    · have hjn : j = n := by omega
      subst hjn
      rw [List.drop_of_length_le (by have := HN.out; omega)] at hv
      have HVA := Lib.hid (show V = some a from hv.symm); clear hv
      have hag : a ≤ 8000000 := by have := HIN.out; omega
      repeat' (go_wp2_with fail; any_goals (refine (within_any _ _ _ _).mono ?_; rintro e w' ⟨rfl, rfl⟩; cases hb : inB _ _ _; have hin := inB_f hb; rotate_left; have hin := inB_t hb))
      all_goals go_wp2
      all_goals go_ret
      all_goals first
        | exact ⟨ret_eq (congrArg Value.bool (HNO.out (by rintro ⟨_, _, _, _, h5, h6, h7, h8⟩; rw [HVA.out] at h5; injection h5; first | omega | (simp only [bne_iff_ne, ne_eq, bne_eq_false_iff_eq, beq_iff_eq, beq_eq_false_iff_ne, Bool.or_eq_true, Bool.and_eq_true, decide_eq_true_eq, Bool.or_eq_false_iff, decide_eq_false_iff_not] at *; omega))).symm), BW.out⟩
        | exact ⟨ret_eq (congrArg Value.bool (HY.out (by refine ⟨by omega, by omega, by omega, by omega, by rw [HVA.out]; congr 1; first | omega | (simp only [bne_iff_ne, ne_eq, bne_eq_false_iff_eq, beq_iff_eq, beq_eq_false_iff_ne, Bool.or_eq_true, Bool.and_eq_true, decide_eq_true_eq, Bool.or_eq_false_iff, decide_eq_false_iff_not] at *; omega), ?_, ?_, ?_⟩ <;> first | omega | (simp only [bne_iff_ne, ne_eq, bne_eq_false_iff_eq, beq_iff_eq, beq_eq_false_iff_ne, Bool.or_eq_true, Bool.and_eq_true, decide_eq_true_eq, Bool.or_eq_false_iff, decide_eq_false_iff_not] at *; omega))).symm), BW.out⟩


set_option maxRecDepth 100000 in
set_option maxHeartbeats 1000000 in
theorem l6Count_any (s : List UInt8) (w : World) (h63 : s.length ≤ 1099511627776) :
    Calls Try.prog 83 #[.string (bs s)] w fun e w' => e = .returned (.tuple #[.int .i64 ((unframeL s).1.length : Int), .bool (((unframeL s).2 : Int) == (s.length : Int))]) ∧ Below w.heap.size w w' := by
  have hs := fun W => sUnframe_any s W h63
  generalize unframeL s = U at *
  obtain ⟨ul, en⟩ := U
  simp only [] at hs ⊢
  have HS := Lib.hid hs; clear hs
  go_enter Try.func83, Try.ntmps83
  go_wp2_with fail
  refine (HS.out _).mono ?_; rintro e w1 ⟨v, rfl, hown, hb⟩
  obtain ⟨Au, cu, rfl, _⟩ := SlR.of_own hown
  have B1 := Lib.hid hb; clear hb hown
  go_wp2
  go_ret2
  exact ⟨rfl, B1.out⟩


set_option maxRecDepth 100000 in
set_option maxHeartbeats 4000000 in
theorem sLogOk_any (x : LogD) (cs : List Value) (w : World) (hwt : x.c.wt ≤ 1048576) (h : Rep anyB w x.c cs) :
    Calls Try.prog 41 #[.agg cs.toArray] w fun e w' => e = .returned (.bool (logOkB x)) ∧ Below w.heap.size w w' := by
  have hw0 : x.c.wt = x.segs.length + (cat SegD.c x.segs).wt + 0 := rfl
  obtain ⟨A0, k0, rfl, s0⟩ := LogD.open h
  have hY := @logOk_yes x
  have hN := @logOk_no x
  obtain ⟨R, hR⟩ : ∃ R, R = logOkB x := ⟨_, rfl⟩
  rw [← hR] at hY hN ⊢
  clear hR
  unfold LogGood at hY hN
  obtain ⟨fi, hfi⟩ : ∃ f, f = fstL x := ⟨_, rfl⟩
  rw [← hfi] at hY hN
  obtain ⟨segs, next, mark⟩ := x
  simp only [] at s0 hw0 hY hN ⊢
  obtain ⟨V, hV⟩ : ∃ V, V = segsF mark segs fi := ⟨_, rfl⟩
  rw [← hV] at hY hN
  have HFI := Lib.hid hfi; clear hfi
  have HV := Lib.hid hV; clear hV
  have HY := Lib.hid hY; clear hY
  have HNO := Lib.hid hN; clear hN
  obtain ⟨n, hn⟩ : ∃ n, n = segs.length := ⟨_, rfl⟩
  rw [← hn] at s0 hw0 HY HNO ⊢
  have HN := Lib.hid hn; clear hn
  have S0 := Lib.hid s0; clear s0
  have hWb : n + (cat SegD.c segs).wt ≤ 1048576 := by omega
  have HW := Lib.hid hWb
  have hn1 : n ≤ 1048576 := by omega
  clear h hw0 hwt hWb
  have SB := Lib.hid (show Blk (w.alloc (.cells #[.slice A0 n k0, .int .i64 next, .int .i64 mark] 46)) w.heap.size 46 [.slice A0 n k0, .int .i64 next, .int .i64 mark].toArray from blk_new _ _ _)
  go_enter Try.func41, Try.ntmps41
  go_wp2_with fail
  refine (l1In_any _ _ _ _).mono ?_; rintro e w' ⟨rfl, rfl⟩
  cases hb : inB _ _ _
  case false =>
    have hin := inB_f hb
    clear hb
    go_wp2
    go_ret
    exact ⟨ret_eq (congrArg Value.bool (HNO.out (by rintro ⟨h1, h2, _⟩; omega)).symm), (by repeat' (first | with_reducible exact Below.refl _ _ | with_reducible exact BW.out | with_reducible refine Below.setCell ?_ ?_ _ | with_reducible refine Below.alloc ?_ ?_ _ | with_reducible refine Below.drew ?_ | (simp; done) | (simp; omega) | omega))⟩
  have hin := inB_t hb
  clear hb
  have hn0 : 0 < segs.length := by have := HN.out; omega
  obtain ⟨ad, ci, rfl, _, _, hrc, hl, hc⟩ := (S0.out.below (show Below w.heap.size w (w.alloc (.cells #[.slice A0 n k0, .int .i64 next, .int .i64 mark] 46)) from (by repeat' (first | with_reducible exact Below.refl _ _ | with_reducible exact BW.out | with_reducible refine Below.setCell ?_ ?_ _ | with_reducible refine Below.alloc ?_ ?_ _ | with_reducible refine Below.drew ?_ | (simp; done) | (simp; omega) | omega)))).elem SegD.width 0 hn0 HN.out
  obtain rfl := SegD.open hrc
  have hf0 : segs[0].first = fi := by rw [HFI.out]; exact fstL_get (l := ⟨segs, next, mark⟩) hn0
  rw [hf0] at hc
  have hc0 := hc 0 _ rfl
  rw [Nat.zero_mul, addr_add0, addr_add0] at hc0
  clear hc hrc hl hf0
  have HIN := Lib.hid hin
  go_wp2
  all_goals try (go_ret; exact ⟨ret_eq (congrArg Value.bool (HNO.out (by rintro ⟨h1, h2, h3, h4, _⟩; omega)).symm), (by repeat' (first | with_reducible exact Below.refl _ _ | with_reducible exact BW.out | with_reducible refine Below.setCell ?_ ?_ _ | with_reducible refine Below.alloc ?_ ?_ _ | with_reducible refine Below.drew ?_ | (simp; done) | (simp; omega) | omega))⟩)
  have hV0 : segsF mark (segs.drop 0) fi = V := by rw [List.drop_zero]; exact HV.out.symm
  have HV0 := Lib.hid hV0; clear hV0
  clear hc0
  have hk1 : 1 ≤ fi := by omega
  have hk2 : fi ≤ 1000 := by omega
  go_loopw [3, 4] (fun aa ii wr => ∃ (j : Nat) (a : Int), j ≤ n ∧ ii = .int .i64 (j : Int) ∧ aa = .int .i64 a ∧ 1 ≤ a ∧ a ≤ 1000 + j * 1048576 ∧ segsF mark (segs.drop j) a = V ∧ Blk wr w.heap.size 46 [.slice (some ad) n k0, .int .i64 next, .int .i64 mark].toArray ∧ Below w.heap.size w wr) (fun _ ii _ => n - (intOf ii).toNat)
  case atStart => exact ⟨0, fi, Nat.zero_le _, rfl, rfl, hk1, by omega, HV0.out, SB.out, (by repeat' (first | with_reducible exact Below.refl _ _ | with_reducible exact BW.out | with_reducible refine Below.setCell ?_ ?_ _ | with_reducible refine Below.alloc ?_ ?_ _ | with_reducible refine Below.drew ?_ | (simp; done) | (simp; omega) | omega))⟩
  case round =>
    obtain ⟨j, a, hj, rfl, rfl, ha1, ha2, hv, hsb, hbw⟩ := hrel
    clear SB
    have SB := Lib.hid hsb; clear hsb
    have BW := Lib.hid hbw; clear hbw
    have hs0 : World.cell? wr ⟨w.heap.size, 0, none⟩ = some (.slice (some ad) n k0) := blk_cell0 (L := [.slice (some ad) n k0, .int .i64 next, .int .i64 mark]) SB.out 0 rfl
    have hs1 : World.cell? wr ⟨w.heap.size, 1, none⟩ = some (.int .i64 next) := blk_cell0 (L := [.slice (some ad) n k0, .int .i64 next, .int .i64 mark]) SB.out 1 rfl
    have hs2 : World.cell? wr ⟨w.heap.size, 2, none⟩ = some (.int .i64 mark) := blk_cell0 (L := [.slice (some ad) n k0, .int .i64 next, .int .i64 mark]) SB.out 2 rfl
    by_cases hlt : j < n
    · have hjx : j < segs.length := by have := HN.out; omega
      obtain ⟨ad', ci, he, _, _, hrc, hl, hc⟩ := (S0.out.below BW.out).elem SegD.width j hjx HN.out
      injection he with he
      subst he
      obtain rfl := SegD.open hrc
      have hwl := seg_wt_le j hjx
      have hdr : segs.drop j = segs[j] :: segs.drop (j + 1) := List.drop_eq_getElem_cons hjx
      rw [hdr] at hv
      have hrl : (segs.drop (j + 1)).length = n - (j + 1) := by rw [List.length_drop, HN.out]
      have h1 := @segsF_1 mark a segs[j] (segs.drop (j + 1))
      have h2 := @segsF_2 mark a segs[j] (segs.drop (j + 1))
      have h3 := @segsF_3 mark a segs[j] (segs.drop (j + 1))
      rw [hv] at h1 h2 h3
      rw [hrl] at h2 h3
      clear hv hdr hrl hrc hl
      generalize segs[j] = s at *
      obtain ⟨fj, txt⟩ := s
      simp only [] at hwl hc h1 h2 h3
      have hun := fun W => l6Count_any txt W (by have := HW.out; omega)
      have hcu := cntU_le txt
      simp only [cntU, endU] at h1 h2 h3 hcu
      generalize unframeL txt = U at *
      obtain ⟨ul, en⟩ := U
      simp only [] at h1 h2 h3 hun hcu
      generalize ul.length = ulen at *
      have H1 := Lib.hid h1; clear h1
      have H2 := Lib.hid h2; clear h2
      have H3 := Lib.hid h3; clear h3
      have HUN := Lib.hid hun; clear hun
      have HC := Lib.hid hc; clear hc
      have hb1 : ulen ≤ 1048576 := by have := HW.out; omega
      have hb2 : txt.length ≤ 1048576 := by have := HW.out; omega
      clear hwl hcu
      go_wp2_with (first | ((with_reducible show wpList _ _ _ ({ dst := _, op := Op.load 90 _, type := _, pos := _, after := _, guard := _ } :: _) _ _); refine wpList_load_row _ (ad.add (j * 2)) rfl [.int .i64 fj, .string (bs txt)] agg_Seg rfl HC.out ?_) | fail)
      refine (HUN.out _).mono ?_; rintro e w2 ⟨rfl, hb⟩
      have LB := Lib.hid (show Blk w2 wr.heap.size 90 [.int .i64 fj, .string (bs txt)].toArray from Blk.below (blk_new _ _ _) hb)
      have X := Lib.hid (show Blk w2 w.heap.size 46 [.slice (some ad) n k0, .int .i64 next, .int .i64 mark].toArray from (SB.out.alloc _).below hb); clear SB
      have SB := Lib.hid X.out; clear X
      have hbw2 : Below w.heap.size w w2 := (BW.out.alloc BW.out.size _).trans (hb.mono (by have := BW.out.size; first | (simp; done) | (simp; omega)))
      clear BW hb
      have BW := Lib.hid hbw2; clear hbw2
      clear hs0 hs1 hs2 HC
      have hs0 : World.cell? w2 ⟨w.heap.size, 0, none⟩ = some (.slice (some ad) n k0) := blk_cell0 (L := [.slice (some ad) n k0, .int .i64 next, .int .i64 mark]) SB.out 0 rfl
      have hs1 : World.cell? w2 ⟨w.heap.size, 1, none⟩ = some (.int .i64 next) := blk_cell0 (L := [.slice (some ad) n k0, .int .i64 next, .int .i64 mark]) SB.out 1 rfl
      have hs2 : World.cell? w2 ⟨w.heap.size, 2, none⟩ = some (.int .i64 mark) := blk_cell0 (L := [.slice (some ad) n k0, .int .i64 next, .int .i64 mark]) SB.out 2 rfl
      have ht0 : World.cell? w2 ⟨wr.heap.size, 0, none⟩ = some (.int .i64 fj) := blk_cell0 (L := [.int .i64 fj, .string (bs txt)]) LB.out 0 rfl
      have ht1 : World.cell? w2 ⟨wr.heap.size, 1, none⟩ = some (.string (bs txt)) := blk_cell0 (L := [.int .i64 fj, .string (bs txt)]) LB.out 1 rfl
      go_wp2
      all_goals first
        | (go_ret
           exact ⟨ret_eq (congrArg Value.bool (HNO.out (by rintro ⟨_, _, _, _, h5, _⟩; first | (rw [H1.out (by first | omega | (simp only [bne_iff_ne, ne_eq, bne_eq_false_iff_eq, beq_iff_eq, beq_eq_false_iff_ne, Bool.or_eq_true, Bool.and_eq_true, decide_eq_true_eq, Bool.or_eq_false_iff, decide_eq_false_iff_not] at *; omega))] at h5; cases h5) | (rw [H2.out (by first | omega | (simp only [bne_iff_ne, ne_eq, bne_eq_false_iff_eq, beq_iff_eq, beq_eq_false_iff_ne, Bool.or_eq_true, Bool.and_eq_true, decide_eq_true_eq, Bool.or_eq_false_iff, decide_eq_false_iff_not] at *; omega))] at h5; cases h5))).symm), BW.out⟩)
        | exact ⟨⟨j + 1, _, by omega, by go_num, rfl, by omega, by omega, ((H3.out (by first | omega | (simp only [bne_iff_ne, ne_eq, bne_eq_false_iff_eq, beq_iff_eq, beq_eq_false_iff_ne, Bool.or_eq_true, Bool.and_eq_true, decide_eq_true_eq, Bool.or_eq_false_iff, decide_eq_false_iff_not] at *; omega)) (by first | omega | (simp only [bne_iff_ne, ne_eq, bne_eq_false_iff_eq, beq_iff_eq, beq_eq_false_iff_ne, Bool.or_eq_true, Bool.and_eq_true, decide_eq_true_eq, Bool.or_eq_false_iff, decide_eq_false_iff_not] at *; omega))).trans (by first | rfl | (congr 1; omega))).symm, SB.out, BW.out⟩, by simp only [intOf]; omega⟩
    · have hjn : j = n := by omega
      subst hjn
      rw [List.drop_of_length_le (by have := HN.out; omega)] at hv
      have HVA := Lib.hid (show V = some a from hv.symm); clear hv
      have hag : a ≤ 8000000 := by have := HIN.out; omega
      repeat' (go_wp2_with fail; any_goals (refine (l1In_any _ _ _ _).mono ?_; rintro e w' ⟨rfl, rfl⟩; cases hb : inB _ _ _; have hin := inB_f hb; rotate_left; have hin := inB_t hb))
      all_goals go_wp2
      all_goals go_ret
      all_goals first
        | exact ⟨ret_eq (congrArg Value.bool (HNO.out (by rintro ⟨_, _, _, _, h5, h6, h7, h8⟩; rw [HVA.out] at h5; injection h5; first | omega | (simp only [bne_iff_ne, ne_eq, bne_eq_false_iff_eq, beq_iff_eq, beq_eq_false_iff_ne, Bool.or_eq_true, Bool.and_eq_true, decide_eq_true_eq, Bool.or_eq_false_iff, decide_eq_false_iff_not] at *; omega))).symm), BW.out⟩
        | exact ⟨ret_eq (congrArg Value.bool (HY.out (by refine ⟨by omega, by omega, by omega, by omega, by rw [HVA.out]; congr 1; first | omega | (simp only [bne_iff_ne, ne_eq, bne_eq_false_iff_eq, beq_iff_eq, beq_eq_false_iff_ne, Bool.or_eq_true, Bool.and_eq_true, decide_eq_true_eq, Bool.or_eq_false_iff, decide_eq_false_iff_not] at *; omega), ?_, ?_, ?_⟩ <;> first | omega | (simp only [bne_iff_ne, ne_eq, bne_eq_false_iff_eq, beq_iff_eq, beq_eq_false_iff_ne, Bool.or_eq_true, Bool.and_eq_true, decide_eq_true_eq, Bool.or_eq_false_iff, decide_eq_false_iff_not] at *; omega))).symm), BW.out⟩

end Go.Proofs.Ytifdkjddiohahaa
