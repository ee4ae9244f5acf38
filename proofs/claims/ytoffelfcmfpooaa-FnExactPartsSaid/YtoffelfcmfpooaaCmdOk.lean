/-
  Right commands: impl.CmdOk and spec.CmdOk; commands that clash. Conditions: a bound on the sizes.
-/
import Derived.Test.YtoffelfcmfpooaaSame
import Derived.Test.YtoffelfcmfpooaaWord
namespace Go.Proofs.Ytoffelfcmfpooaa
open Go.RowKit

def chunksB (xs : List (List UInt8)) : Bool := xs.all fun s => decide (s.length = 8)
def zeroCmd : CmdD := ⟨0, 0, 0, [], [], [], 0, []⟩
/-- a right command; its first test is on the kind alone -/
def cmdOkB (c : CmdD) : Bool :=
  if (c.kind == 0) = true then cmdSame c zeroCmd else
  inB 1 7 c.kind && (inB 1 9 c.client && (inB 1 1000 c.no && (wordIfB c.set (c.kind != 7) && (wordIfB c.name (c.kind == 3 || c.kind == 4) && (wordIfB c.tag (c.kind == 4) &&
    ((c.n == 0 || (c.kind == 5 && inB 0 9 c.n)) && (if (c.kind == 3) = true then inB 1 4 (c.chunks.length : Int) && chunksB c.chunks else ((c.chunks.length : Int) == 0))))))))
theorem in07 {k : Int} (h : (k == 0) = false) : inB 0 7 k = inB 1 7 k := by
  simp only [beq_eq_false_iff_ne] at h
  simp only [inB, decide_eq_decide]
  omega
theorem chunksB_step {xs : List (List UInt8)} {j : Nat} (h : chunksB (xs.take j) = true) (hj : j < xs.length) (hb : xs[j].length = 8) : chunksB (xs.take (j + 1)) = true := by
  unfold chunksB at *
  rw [List.take_succ_eq_append_getElem hj, List.all_append, h, Bool.true_and]
  simp [hb]
theorem chunksB_no {xs : List (List UInt8)} {j : Nat} (hj : j < xs.length) (hb : ¬ xs[j].length = 8) : chunksB xs = false := by
  unfold chunksB
  rw [List.all_eq_false]
  exact ⟨xs[j], List.getElem_mem hj, by simpa using hb⟩
theorem zero_rep (w : World) : Rep anyB w zeroCmd.c [.int .i64 0, .int .i64 0, .int .i64 0, .string (bs []), .string (bs []), .string (bs []), .int .i64 0, .slice none 0 0] := CmdD.shut (x := zeroCmd) Rep.sl_nil

set_option maxRecDepth 100000 in
set_option maxHeartbeats 1000000 in
theorem areChunks_any (xs : List (List UInt8)) (v : Value) (w : World) (hn : xs.length ≤ 1048576) (hr : SlR w 1 v xs.length (xs.map strv)) :
    Calls Try.prog 110 #[v] w fun e w' => e = .returned (.bool (chunksB xs)) ∧ w = w' := by
  obtain ⟨A, c, rfl, hR⟩ := hr
  obtain ⟨n, hnn⟩ : ∃ n, n = xs.length := ⟨_, rfl⟩
  rw [← hnn] at hn hR ⊢
  have HN := Lib.hid hnn; clear hnn
  have HR := Lib.hid hR; clear hR
  go_enter Try.func110, Try.ntmps110
  go_wp2
  go_loop [7] (fun ii => ∃ j : Nat, j ≤ n ∧ ii = .int .i64 (j : Int) ∧ chunksB (xs.take j) = true) (fun ii => n - (intOf ii).toNat)
  case atStart => exact ⟨0, Nat.zero_le _, rfl, rfl⟩
  case round =>
    obtain ⟨j, hj, rfl, hall⟩ := hrel
    have HA := Lib.hid hall; clear hall
    by_cases hlt : j < n
    · have hjx : j < xs.length := by have := HN.out; omega
      obtain ⟨ad, rfl, hcells⟩ := HR.out.2 (by omega)
      have hc := hcells j (strv xs[j]) (by rw [List.getElem?_map, List.getElem?_eq_getElem hjx]; rfl)
      have hc2 : w.cell? (ad.add j) = some (.string (bs xs[j])) := hc
      have hst := fun h => chunksB_step HA.out hjx h
      have hno := fun h => chunksB_no (xs := xs) hjx h
      clear hc hcells
      generalize xs[j] = x at *
      have HST := Lib.hid hst; clear hst
      have HNO := Lib.hid hno; clear hno
      by_cases h8 : x.length = 8
      · have HS := Lib.hid (HST.out h8)
        have hb : ((x.length : Int) == 8) = true := by simp only [beq_iff_eq]; omega
        clear h8
        go_wp2
        exact ⟨⟨j + 1, by omega, by go_num, HS.out⟩, by simp only [intOf]; omega⟩
      · have HS := Lib.hid (HNO.out h8)
        have hb : ((x.length : Int) == 8) = false := by simp only [beq_eq_false_iff_ne]; omega
        clear h8
        go_wp2
        go_ret
        exact ⟨ret_eq (by rw [HS.out]; rfl), rfl⟩
    · have hjn : j = n := by omega
      subst hjn
      have HS := Lib.hid (show chunksB xs = true by have := HA.out; rwa [List.take_of_length_le (by have := HN.out; omega)] at this)
      go_wp2
      go_ret
      exact ⟨ret_eq (by rw [HS.out]; rfl), rfl⟩


set_option maxRecDepth 100000 in
set_option maxHeartbeats 4000000 in
theorem iCmdOk_any (x : CmdD) (cs : List Value) (w : World) (hwt : x.c.wt ≤ 1048576) (h : Rep anyB w x.c cs) :
    Calls Try.prog 91 #[.agg cs.toArray] w fun e w' => e = .returned (.bool (cmdOkB x)) ∧ Below w.heap.size w w' := by
  have hw0 : x.c.wt = x.set.length + (x.name.length + (x.tag.length + (x.chunks.length + (cat strC x.chunks).wt + 0))) := rfl
  have HREP := Lib.hid h
  obtain ⟨A0, k0, rfl, s0⟩ := CmdD.open h
  obtain ⟨kind, client, no, set, name, tag, n, chunks⟩ := x
  simp only [] at s0 hw0 ⊢
  have e1 : set.length ≤ 1048576 := by omega
  have e2 : name.length ≤ 1048576 := by omega
  have e3 : tag.length ≤ 1048576 := by omega
  have e4 : chunks.length ≤ 1048576 := by omega
  have HWT := Lib.hid hwt
  clear hwt hw0 h
  have S0 := Lib.hid s0; clear s0
  obtain ⟨R, hR⟩ : ∃ R, R = cmdOkB ⟨kind, client, no, set, name, tag, n, chunks⟩ := ⟨_, rfl⟩
  rw [← hR]
  rw [cmdOkB] at hR
  simp only [] at hR
  have HR := Lib.hid hR; clear hR
  cases hk0 : kind == 0
  case true =>
    obtain rfl : kind = 0 := by simpa using hk0
    have HK := Lib.hid (show (0 : Int) ≤ 0 ∧ (0 : Int) ≤ 7 by omega)
    go_enter Try.func91, Try.ntmps91
    go_wp2_with fail
    refine (iSameCmd_any ⟨0, client, no, set, name, tag, n, chunks⟩ zeroCmd _ _ _ HWT.out (by decide) (HREP.out.below (by repeat' (first | with_reducible exact Below.refl _ _ | with_reducible exact BW.out | with_reducible refine Below.setCell ?_ ?_ _ | with_reducible refine Below.alloc ?_ ?_ _ | with_reducible refine Below.drew ?_ | (simp; done) | (simp; omega) | omega))) (zero_rep _)).mono ?_; rintro e w1 ⟨rfl, hb⟩
    have BW := Lib.hid (show Below w.heap.size w w1 from Below.trans (by repeat' (first | with_reducible exact Below.refl _ _ | with_reducible exact BW.out | with_reducible refine Below.setCell ?_ ?_ _ | with_reducible refine Below.alloc ?_ ?_ _ | with_reducible refine Below.drew ?_ | (simp; done) | (simp; omega) | omega)) (hb.mono (by first | (simp; done) | (simp; omega) | omega))); clear hb
    go_wp2
    go_ret
    exact ⟨ret_eq (by rw [HR.out]; rfl), BW.out⟩
  case false =>
    go_enter Try.func91, Try.ntmps91
    repeat' (go_wp2_with fail; any_goals (first | (refine (within_any _ _ _ _).mono ?_; rintro e w' ⟨rfl, rfl⟩; cases hb : inB _ _ _) | (refine (wordIf_any _ _ _ (by omega)).mono ?_; rintro e w' ⟨rfl, rfl⟩; cases hb : wordIfB _ _) | (refine (areChunks_any chunks _ _ (by omega) (S0.out.below (by repeat' (first | with_reducible exact Below.refl _ _ | with_reducible exact BW.out | with_reducible refine Below.setCell ?_ ?_ _ | with_reducible refine Below.alloc ?_ ?_ _ | with_reducible refine Below.drew ?_ | (simp; done) | (simp; omega) | omega))).strs).mono ?_; rintro e w' ⟨rfl, rfl⟩; cases hb : chunksB _)))
    all_goals (go_wp2; go_ret; refine ⟨ret_eq ?_, (by repeat' (first | with_reducible exact Below.refl _ _ | with_reducible exact BW.out | with_reducible refine Below.setCell ?_ ?_ _ | with_reducible refine Below.alloc ?_ ?_ _ | with_reducible refine Below.drew ?_ | (simp; done) | (simp; omega) | omega))⟩; rw [HR.out]; clear HR HREP HWT S0; first | (simp [*]; done) | (subst_vars; simp [*]; done) | (simp_all; done) | (rw [show wordIfB name (kind == 3 || kind == 4) = true from ‹_›]; simp [*]; done))


set_option maxRecDepth 100000 in
set_option maxHeartbeats 4000000 in
theorem sCmdOk_any (x : CmdD) (cs : List Value) (w : World) (hwt : x.c.wt ≤ 1048576) (h : Rep anyB w x.c cs) :
    Calls Try.prog 66 #[.agg cs.toArray] w fun e w' => e = .returned (.bool (cmdOkB x)) ∧ Below w.heap.size w w' := by
  have hw0 : x.c.wt = x.set.length + (x.name.length + (x.tag.length + (x.chunks.length + (cat strC x.chunks).wt + 0))) := rfl
  have HREP := Lib.hid h
  obtain ⟨A0, k0, rfl, s0⟩ := CmdD.open h
  obtain ⟨kind, client, no, set, name, tag, n, chunks⟩ := x
  simp only [] at s0 hw0 ⊢
  have e1 : set.length ≤ 1048576 := by omega
  have e2 : name.length ≤ 1048576 := by omega
  have e3 : tag.length ≤ 1048576 := by omega
  have e4 : chunks.length ≤ 1048576 := by omega
  have HWT := Lib.hid hwt
  clear hwt hw0 h
  have S0 := Lib.hid s0; clear s0
  obtain ⟨R, hR⟩ : ∃ R, R = cmdOkB ⟨kind, client, no, set, name, tag, n, chunks⟩ := ⟨_, rfl⟩
  rw [← hR]
  rw [cmdOkB] at hR
  simp only [] at hR
  have HR := Lib.hid hR; clear hR
  cases hk0 : kind == 0
  case true =>
    obtain rfl : kind = 0 := by simpa using hk0
    have HK := Lib.hid (show (0 : Int) ≤ 0 ∧ (0 : Int) ≤ 7 by omega)
    go_enter Try.func66, Try.ntmps66
    go_wp2_with fail
    refine (l1In_yes _ _ _ _ HK.out).mono ?_; rintro e w' ⟨rfl, rfl⟩
    go_wp2_with fail
    refine (sSameCmd_any ⟨0, client, no, set, name, tag, n, chunks⟩ zeroCmd _ _ _ HWT.out (by decide) (HREP.out.below (by repeat' (first | with_reducible exact Below.refl _ _ | with_reducible exact BW.out | with_reducible refine Below.setCell ?_ ?_ _ | with_reducible refine Below.alloc ?_ ?_ _ | with_reducible refine Below.drew ?_ | (simp; done) | (simp; omega) | omega))) (zero_rep _)).mono ?_; rintro e w1 ⟨rfl, hb⟩
    have BW := Lib.hid (show Below w.heap.size w w1 from Below.trans (by repeat' (first | with_reducible exact Below.refl _ _ | with_reducible exact BW.out | with_reducible refine Below.setCell ?_ ?_ _ | with_reducible refine Below.alloc ?_ ?_ _ | with_reducible refine Below.drew ?_ | (simp; done) | (simp; omega) | omega)) (hb.mono (by first | (simp; done) | (simp; omega) | omega))); clear hb
    go_wp2
    go_ret
    exact ⟨ret_eq (by rw [HR.out]; rfl), BW.out⟩
  case false =>
    have HI := Lib.hid (in07 hk0)
    go_enter Try.func66, Try.ntmps66
    repeat' (go_wp2_with fail; any_goals (first | (refine (l1In_any _ _ _ _).mono ?_; rintro e w' ⟨rfl, rfl⟩; (try rw [HI.out]); cases hb : inB _ _ _) | (refine (l4May_any _ _ _ (by omega)).mono ?_; rintro e w' ⟨rfl, rfl⟩; cases hb : wordIfB _ _)))
    all_goals try (go_wp2; go_ret; refine ⟨ret_eq ?_, (by repeat' (first | with_reducible exact Below.refl _ _ | with_reducible exact BW.out | with_reducible refine Below.setCell ?_ ?_ _ | with_reducible refine Below.alloc ?_ ?_ _ | with_reducible refine Below.drew ?_ | (simp; done) | (simp; omega) | omega))⟩; rw [HR.out]; clear HR HREP HWT S0; first | (simp [*]; done) | (subst_vars; simp [*]; done) | (simp_all; done) | (rw [show wordIfB name (kind == 3 || kind == 4) = true from ‹_›]; simp [*]; done))
    all_goals
      obtain rfl : kind = 3 := by assumption
      obtain rfl : n = 0 := by assumption
      have HRC := Lib.hid (show R = chunksB chunks by rw [HR.out]; simp_all)
      clear HR
      have SL := (S0.out.below (show Below w.heap.size w (w.alloc (.cells #[.int .i64 3, .int .i64 client, .int .i64 no, .string (bs set), .string (bs name), .string (bs tag), .int .i64 0, .slice A0 chunks.length k0] 37)) from (by repeat' (first | with_reducible exact Below.refl _ _ | with_reducible exact BW.out | with_reducible refine Below.setCell ?_ ?_ _ | with_reducible refine Below.alloc ?_ ?_ _ | with_reducible refine Below.drew ?_ | (simp; done) | (simp; omega) | omega)))).strs
      obtain ⟨A, c, he, hR⟩ := SL
      injection he with he1 _ he2
      subst he1 he2
      obtain ⟨m, hm⟩ : ∃ m, m = chunks.length := ⟨_, rfl⟩
      rw [← hm] at hR e4 ⊢
      have HM := Lib.hid hm; clear hm
      have HR := Lib.hid hR; clear hR
      go_wp2
      go_loop [4] (fun ii => ∃ j : Nat, j ≤ m ∧ ii = .int .i64 (j : Int) ∧ chunksB (chunks.take j) = true) (fun ii => m - (intOf ii).toNat)
      case atStart => exact ⟨0, Nat.zero_le _, rfl, rfl⟩
      case round =>
        obtain ⟨j, hj, rfl, hall⟩ := hrel
        have HA := Lib.hid hall; clear hall
        by_cases hlt : j < m
        · have hjx : j < chunks.length := by have := HM.out; omega
          obtain ⟨ad, rfl, hcells⟩ := HR.out.2 (by omega)
          have hc := hcells j (strv chunks[j]) (by rw [List.getElem?_map, List.getElem?_eq_getElem hjx]; rfl)
          have hst := fun h => chunksB_step HA.out hjx h
          have hno := fun h => chunksB_no (xs := chunks) hjx h
          clear hcells
          generalize chunks[j] = x at *
          have HST := Lib.hid hst; clear hst
          have HNO := Lib.hid hno; clear hno
          have hc2 : World.cell? _ (ad.add j) = some (.string (bs x)) := hc
          clear hc
          by_cases h8 : x.length = 8
          · have HS := Lib.hid (HST.out h8)
            have hb : ((x.length : Int) == 8) = true := by simp only [beq_iff_eq]; omega
            clear h8
            go_wp2
            exact ⟨⟨j + 1, by omega, by go_num, HS.out⟩, by simp only [intOf]; omega⟩
          · have HS := Lib.hid (HNO.out h8)
            have hb : ((x.length : Int) == 8) = false := by simp only [beq_eq_false_iff_ne]; omega
            clear h8
            go_wp2
            go_ret
            exact ⟨ret_eq (by rw [HRC.out, HS.out]; rfl), (by repeat' (first | with_reducible exact Below.refl _ _ | with_reducible exact BW.out | with_reducible refine Below.setCell ?_ ?_ _ | with_reducible refine Below.alloc ?_ ?_ _ | with_reducible refine Below.drew ?_ | (simp; done) | (simp; omega) | omega))⟩
        · have hjn : j = m := by omega
          subst hjn
          have HS := Lib.hid (show chunksB chunks = true by have := HA.out; rwa [List.take_of_length_le (by have := HM.out; omega)] at this)
          go_wp2
          go_ret
          exact ⟨ret_eq (by rw [HRC.out, HS.out]; rfl), (by repeat' (first | with_reducible exact Below.refl _ _ | with_reducible exact BW.out | with_reducible refine Below.setCell ?_ ?_ _ | with_reducible refine Below.alloc ?_ ?_ _ | with_reducible refine Below.drew ?_ | (simp; done) | (simp; omega) | omega))⟩

end Go.Proofs.Ytoffelfcmfpooaa
