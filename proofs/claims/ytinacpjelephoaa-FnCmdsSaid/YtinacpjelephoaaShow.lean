/-
  Commands as text: impl.ShowCmd and spec.ShowCmd. Conditions: a bound on the sizes.
-/
import Derived.Test.YtinacpjelephoaaCmdOk
import Derived.Test.YtinacpjelephoaaFrame
namespace Go.Proofs.Ytinacpjelephoaa
open Go.RowKit

def showH (c : CmdD) : List UInt8 := varF c.kind ++ (varF c.client ++ (varF c.no ++ (varF c.n ++ (sizedL c.set ++ (sizedL c.name ++ (sizedL c.tag ++ varF (c.chunks.length : Int)))))))
def showCmdL (c : CmdD) : List UInt8 := if cmdOkB c = true then showH c ++ c.chunks.flatten else []
theorem flat_take (xs : List (List UInt8)) (j : Nat) (h : j < xs.length) : (xs.take (j + 1)).flatten = (xs.take j).flatten ++ xs[j] := by
  rw [List.take_succ_eq_append_getElem h, List.flatten_append]; simp
theorem flat_len (xs : List (List UInt8)) : xs.flatten.length = (cat strC xs).wt := by rw [strs_wt, List.length_flatten]
theorem flat_take_le (xs : List (List UInt8)) (j : Nat) : (xs.take j).flatten.length ≤ xs.flatten.length := by
  conv => rhs; rw [← List.take_append_drop j xs]
  rw [List.flatten_append, List.length_append]; omega


set_option maxRecDepth 100000 in
set_option maxHeartbeats 4000000 in
theorem iShowCmd_any (x : CmdD) (cs : List Value) (w : World) (hwt : x.c.wt ≤ 1048576) (h : Rep anyB w x.c cs) :
    Calls Try.prog 18 #[.agg cs.toArray] w fun e w' => e = .returned (.string (bs (showCmdL x))) ∧ Below w.heap.size w w' := by
  have HA := Lib.hid h
  have hw0 : x.c.wt = x.set.length + (x.name.length + (x.tag.length + (x.chunks.length + (cat strC x.chunks).wt + 0))) := rfl
  obtain ⟨A0, k0, rfl, s0⟩ := CmdD.open h
  obtain ⟨a0, a1, a2, a3, a4, a5, a6, a7⟩ := x
  simp only [] at HA hw0 s0 ⊢
  have e3 : a3.length ≤ 1048576 := by omega
  have e4 : a4.length ≤ 1048576 := by omega
  have e5 : a5.length ≤ 1048576 := by omega
  have e7 : a7.length ≤ 1048576 := by omega
  have e8 : a7.flatten.length ≤ 1048576 := by rw [flat_len]; omega
  have HW := Lib.hid hwt
  have S0 := Lib.hid s0
  clear h hwt hw0 s0
  obtain ⟨R, hR⟩ : ∃ R, R = showCmdL ⟨a0, a1, a2, a3, a4, a5, a6, a7⟩ := ⟨_, rfl⟩
  rw [← hR]
  rw [showCmdL] at hR
  simp only [showH] at hR
  have HR := Lib.hid hR; clear hR
  have hv0 := varF_length a0
  have hv1 := varF_length a1
  have hv2 := varF_length a2
  have hv6 := varF_length a6
  have hv3 := sizedL_length a3
  have hv4 := sizedL_length a4
  have hv5 := sizedL_length a5
  have hv7 := varF_length (a7.length : Int)
  go_enter Try.func18, Try.ntmps18
  go_wp2_with fail
  refine (iCmdOk_any ⟨a0, a1, a2, a3, a4, a5, a6, a7⟩ _ _ HW.out (HA.out.below (by repeat' (first | with_reducible exact Below.refl _ _ | with_reducible exact BW.out | with_reducible refine Below.setCell ?_ ?_ _ | with_reducible refine Below.alloc ?_ ?_ _ | with_reducible refine Below.drew ?_ | (simp; done) | (simp; omega) | omega)))).mono ?_; rintro e v1 ⟨rfl, hb⟩
  have SB := Lib.hid (Blk.below (blk_new _ _ _) hb)
  have BW := Lib.hid (show Below w.heap.size w v1 from Below.trans (by repeat' (first | with_reducible exact Below.refl _ _ | with_reducible exact BW.out | with_reducible refine Below.setCell ?_ ?_ _ | with_reducible refine Below.alloc ?_ ?_ _ | with_reducible refine Below.drew ?_ | (simp; done) | (simp; omega) | omega)) (hb.mono (by first | (simp; done) | (simp; omega) | omega))); clear hb
  cases hx : cmdOkB ⟨a0, a1, a2, a3, a4, a5, a6, a7⟩
  case false =>
    go_wp2
    go_ret
    exact ⟨ret_eq (by rw [HR.out, hx]; rfl), BW.out⟩
  case true =>
    rw [hx, if_pos rfl] at HR
    have hs0 : World.cell? v1 ⟨w.heap.size, 0, none⟩ = some (.int .i64 a0) := blk_cell0 (L := [.int .i64 a0, .int .i64 a1, .int .i64 a2, .string (bs a3), .string (bs a4), .string (bs a5), .int .i64 a6, .slice A0 a7.length k0]) SB.out 0 rfl
    have hs1 : World.cell? v1 ⟨w.heap.size, 1, none⟩ = some (.int .i64 a1) := blk_cell0 (L := [.int .i64 a0, .int .i64 a1, .int .i64 a2, .string (bs a3), .string (bs a4), .string (bs a5), .int .i64 a6, .slice A0 a7.length k0]) SB.out 1 rfl
    have hs2 : World.cell? v1 ⟨w.heap.size, 2, none⟩ = some (.int .i64 a2) := blk_cell0 (L := [.int .i64 a0, .int .i64 a1, .int .i64 a2, .string (bs a3), .string (bs a4), .string (bs a5), .int .i64 a6, .slice A0 a7.length k0]) SB.out 2 rfl
    have hs3 : World.cell? v1 ⟨w.heap.size, 3, none⟩ = some (.string (bs a3)) := blk_cell0 (L := [.int .i64 a0, .int .i64 a1, .int .i64 a2, .string (bs a3), .string (bs a4), .string (bs a5), .int .i64 a6, .slice A0 a7.length k0]) SB.out 3 rfl
    have hs4 : World.cell? v1 ⟨w.heap.size, 4, none⟩ = some (.string (bs a4)) := blk_cell0 (L := [.int .i64 a0, .int .i64 a1, .int .i64 a2, .string (bs a3), .string (bs a4), .string (bs a5), .int .i64 a6, .slice A0 a7.length k0]) SB.out 4 rfl
    have hs5 : World.cell? v1 ⟨w.heap.size, 5, none⟩ = some (.string (bs a5)) := blk_cell0 (L := [.int .i64 a0, .int .i64 a1, .int .i64 a2, .string (bs a3), .string (bs a4), .string (bs a5), .int .i64 a6, .slice A0 a7.length k0]) SB.out 5 rfl
    have hs6 : World.cell? v1 ⟨w.heap.size, 6, none⟩ = some (.int .i64 a6) := blk_cell0 (L := [.int .i64 a0, .int .i64 a1, .int .i64 a2, .string (bs a3), .string (bs a4), .string (bs a5), .int .i64 a6, .slice A0 a7.length k0]) SB.out 6 rfl
    have hs7 : World.cell? v1 ⟨w.heap.size, 7, none⟩ = some (.slice A0 a7.length k0) := blk_cell0 (L := [.int .i64 a0, .int .i64 a1, .int .i64 a2, .string (bs a3), .string (bs a4), .string (bs a5), .int .i64 a6, .slice A0 a7.length k0]) SB.out 7 rfl
    go_wp2
    refine wp_region_x 33 [0, 1, 3, 4, 7, 8, 11, 12, 15, 16, 19, 20, 23, 24, 27, 28, 29, 2, 5, 6, 9, 10, 13, 14, 17, 18, 21, 22, 25, 26, 30, 31, 32] (by kernel_rfl) (by kernel_rfl) ?_
    iterate 17 (refine wpX_quiet rfl (by kernel_rfl) rfl ?_; go_wp2; refine ⟨rfl, ?_⟩)
    refine wpX_actor rfl (by kernel_rfl) ?_
    go_wp2_with fail
    refine (iVar_any _ _).mono ?_; rintro e v2 ⟨rfl, hb⟩
    have HB := Lib.hid hb
    have hb2 := below_drewL hb; clear hb
    have hb := hb2; clear hb2
    have X := Lib.hid (show Below w.heap.size w v2 from BW.out.trans (hb.mono BW.out.size)); clear BW
    have BW := Lib.hid X.out; clear X
    have X := Lib.hid (SB.out.below hb); clear SB
    have SB := Lib.hid X.out; clear X
    clear hb
    go_wp2
    refine ⟨Ext.of_below HB.out, ?_⟩
    clear HB
    refine wpX_actor rfl (by kernel_rfl) ?_
    go_wp2_with fail
    refine (iVar_any _ _).mono ?_; rintro e v3 ⟨rfl, hb⟩
    have HB := Lib.hid hb
    have X := Lib.hid (show Below w.heap.size w v3 from BW.out.trans (hb.mono BW.out.size)); clear BW
    have BW := Lib.hid X.out; clear X
    have X := Lib.hid (SB.out.below hb); clear SB
    have SB := Lib.hid X.out; clear X
    clear hb
    go_wp2
    refine ⟨Ext.of_below HB.out, ?_⟩
    clear HB
    iterate 1 (refine wpX_quiet rfl (by kernel_rfl) rfl ?_; go_wp2; refine ⟨rfl, ?_⟩)
    refine wpX_actor rfl (by kernel_rfl) ?_
    go_wp2_with fail
    refine (iVar_any _ _).mono ?_; rintro e v4 ⟨rfl, hb⟩
    have HB := Lib.hid hb
    have X := Lib.hid (show Below w.heap.size w v4 from BW.out.trans (hb.mono BW.out.size)); clear BW
    have BW := Lib.hid X.out; clear X
    have X := Lib.hid (SB.out.below hb); clear SB
    have SB := Lib.hid X.out; clear X
    clear hb
    go_wp2
    refine ⟨Ext.of_below HB.out, ?_⟩
    clear HB
    iterate 1 (refine wpX_quiet rfl (by kernel_rfl) rfl ?_; go_wp2; refine ⟨rfl, ?_⟩)
    refine wpX_actor rfl (by kernel_rfl) ?_
    go_wp2_with fail
    refine (iVar_any _ _).mono ?_; rintro e v5 ⟨rfl, hb⟩
    have HB := Lib.hid hb
    have X := Lib.hid (show Below w.heap.size w v5 from BW.out.trans (hb.mono BW.out.size)); clear BW
    have BW := Lib.hid X.out; clear X
    have X := Lib.hid (SB.out.below hb); clear SB
    have SB := Lib.hid X.out; clear X
    clear hb
    go_wp2
    refine ⟨Ext.of_below HB.out, ?_⟩
    clear HB
    iterate 1 (refine wpX_quiet rfl (by kernel_rfl) rfl ?_; go_wp2; refine ⟨rfl, ?_⟩)
    refine wpX_actor rfl (by kernel_rfl) ?_
    go_wp2_with fail
    refine (iSized_any _ _ (by omega)).mono ?_; rintro e v6 ⟨rfl, hb⟩
    have HB := Lib.hid hb
    have X := Lib.hid (show Below w.heap.size w v6 from BW.out.trans (hb.mono BW.out.size)); clear BW
    have BW := Lib.hid X.out; clear X
    have X := Lib.hid (SB.out.below hb); clear SB
    have SB := Lib.hid X.out; clear X
    clear hb
    go_wp2
    refine ⟨Ext.of_below HB.out, ?_⟩
    clear HB
    iterate 1 (refine wpX_quiet rfl (by kernel_rfl) rfl ?_; go_wp2; refine ⟨rfl, ?_⟩)
    refine wpX_actor rfl (by kernel_rfl) ?_
    go_wp2_with fail
    refine (iSized_any _ _ (by omega)).mono ?_; rintro e v7 ⟨rfl, hb⟩
    have HB := Lib.hid hb
    have X := Lib.hid (show Below w.heap.size w v7 from BW.out.trans (hb.mono BW.out.size)); clear BW
    have BW := Lib.hid X.out; clear X
    have X := Lib.hid (SB.out.below hb); clear SB
    have SB := Lib.hid X.out; clear X
    clear hb
    go_wp2
    refine ⟨Ext.of_below HB.out, ?_⟩
    clear HB
    iterate 1 (refine wpX_quiet rfl (by kernel_rfl) rfl ?_; go_wp2; refine ⟨rfl, ?_⟩)
    refine wpX_actor rfl (by kernel_rfl) ?_
    go_wp2_with fail
    refine (iSized_any _ _ (by omega)).mono ?_; rintro e v8 ⟨rfl, hb⟩
    have HB := Lib.hid hb
    have X := Lib.hid (show Below w.heap.size w v8 from BW.out.trans (hb.mono BW.out.size)); clear BW
    have BW := Lib.hid X.out; clear X
    have X := Lib.hid (SB.out.below hb); clear SB
    have SB := Lib.hid X.out; clear X
    clear hb
    go_wp2
    refine ⟨Ext.of_below HB.out, ?_⟩
    clear HB
    iterate 1 (refine wpX_quiet rfl (by kernel_rfl) rfl ?_; go_wp2; refine ⟨rfl, ?_⟩)
    refine wpX_actor rfl (by kernel_rfl) ?_
    go_wp2_with fail
    refine (iVar_any _ _).mono ?_; rintro e v9 ⟨rfl, hb⟩
    have HB := Lib.hid hb
    have X := Lib.hid (show Below w.heap.size w v9 from BW.out.trans (hb.mono BW.out.size)); clear BW
    have BW := Lib.hid X.out; clear X
    have X := Lib.hid (SB.out.below hb); clear SB
    have SB := Lib.hid X.out; clear X
    clear hb
    go_wp2
    refine ⟨Ext.of_below HB.out, ?_⟩
    clear HB
    iterate 2 (refine wpX_quiet rfl (by kernel_rfl) rfl ?_; go_wp2; refine ⟨rfl, ?_⟩)
    refine wpX_nil ?_
    try simp only [List.drop_succ_cons, List.drop_zero]
    clear hs0 hs1 hs2 hs3 hs4 hs5 hs6 hs7
    have hs7 : World.cell? v9 ⟨w.heap.size, 7, none⟩ = some (.slice A0 a7.length k0) := blk_cell0 (L := [.int .i64 a0, .int .i64 a1, .int .i64 a2, .string (bs a3), .string (bs a4), .string (bs a5), .int .i64 a6, .slice A0 a7.length k0]) SB.out 7 rfl
    obtain ⟨A, c, he, hR⟩ := (S0.out.below BW.out).strs
    injection he with he1 _ he2
    subst he1 he2
    have HC := Lib.hid hR; clear hR
    obtain ⟨m, hm⟩ : ∃ m, m = a7.length := ⟨_, rfl⟩
    rw [← hm] at HC hs7 e7 hv7 SB HR ⊢
    have HM := Lib.hid hm; clear hm
    have hl : (varF a0 ++ (varF a1 ++ (varF a2 ++ (varF a6 ++ (sizedL a3 ++ (sizedL a4 ++ (sizedL a5 ++ varF (m : Int)))))))).length ≤ 4000000 := by simp only [List.length_append]; omega
    clear hv0 hv1 hv2 hv3 hv4 hv5 hv6 hv7
    generalize varF a0 ++ (varF a1 ++ (varF a2 ++ (varF a6 ++ (sizedL a3 ++ (sizedL a4 ++ (sizedL a5 ++ varF (m : Int))))))) = hd at *
    go_wp2
    go_loop [3, 44] (fun oo ii => ∃ j : Nat, j ≤ m ∧ ii = .int .i64 (j : Int) ∧ oo = .string (bs (hd ++ (a7.take j).flatten))) (fun _ ii => m - (intOf ii).toNat)
    case atStart => exact ⟨0, Nat.zero_le _, rfl, by simp⟩
    case round =>
      obtain ⟨j, hj, rfl, rfl⟩ := hrel
      by_cases hlt : j < m
      · have hjx : j < a7.length := by have := HM.out; omega
        obtain ⟨ad, rfl, hcells⟩ := HC.out.2 (by omega)
        have hc := hcells j (strv a7[j]) (by rw [List.getElem?_map, List.getElem?_eq_getElem hjx]; rfl)
        have hc2 : World.cell? v9 (ad.add j) = some (.string (bs a7[j])) := hc
        have hst := flat_take a7 j hjx
        have hb1 := flat_take_le a7 (j + 1)
        rw [hst, List.length_append] at hb1
        clear hc hcells
        generalize a7[j] = x at *
        generalize (a7.take j).flatten = acc at *
        have hb2 : acc.length + x.length ≤ 1048576 := by omega
        have HST := Lib.hid hst; clear hst hb1
        go_wp2
        exact ⟨⟨j + 1, by omega, by go_num, by rw [HST.out]⟩, by simp only [intOf]; omega⟩
      · have hjn : j = m := by omega
        subst hjn
        have hf : a7.take j = a7 := List.take_of_length_le (by have := HM.out; omega)
        rw [hf]
        clear hf
        go_wp2
        go_ret
        exact ⟨ret_eq (by rw [HR.out]; rfl), BW.out⟩


set_option maxRecDepth 100000 in
set_option maxHeartbeats 4000000 in
theorem sShowCmd_any (x : CmdD) (cs : List Value) (w : World) (hwt : x.c.wt ≤ 1048576) (h : Rep anyB w x.c cs) :
    Calls Try.prog 23 #[.agg cs.toArray] w fun e w' => e = .returned (.string (bs (showCmdL x))) ∧ Below w.heap.size w w' := by
  have HA := Lib.hid h
  have hw0 : x.c.wt = x.set.length + (x.name.length + (x.tag.length + (x.chunks.length + (cat strC x.chunks).wt + 0))) := rfl
  obtain ⟨A0, k0, rfl, s0⟩ := CmdD.open h
  obtain ⟨a0, a1, a2, a3, a4, a5, a6, a7⟩ := x
  simp only [] at HA hw0 s0 ⊢
  have e3 : a3.length ≤ 1048576 := by omega
  have e4 : a4.length ≤ 1048576 := by omega
  have e5 : a5.length ≤ 1048576 := by omega
  have e7 : a7.length ≤ 1048576 := by omega
  have e8 : a7.flatten.length ≤ 1048576 := by rw [flat_len]; omega
  have HW := Lib.hid hwt
  have S0 := Lib.hid s0
  clear h hwt hw0 s0
  obtain ⟨R, hR⟩ : ∃ R, R = showCmdL ⟨a0, a1, a2, a3, a4, a5, a6, a7⟩ := ⟨_, rfl⟩
  rw [← hR]
  rw [showCmdL] at hR
  simp only [showH] at hR
  have HR := Lib.hid hR; clear hR
  have hv0 := varF_length a0
  have hv1 := varF_length a1
  have hv2 := varF_length a2
  have hv6 := varF_length a6
  have hv3 := sizedL_length a3
  have hv4 := sizedL_length a4
  have hv5 := sizedL_length a5
  have hv7 := varF_length (a7.length : Int)
  go_enter Try.func23, Try.ntmps23
  go_wp2_with fail
  refine (sCmdOk_any ⟨a0, a1, a2, a3, a4, a5, a6, a7⟩ _ _ HW.out (HA.out.below (by repeat' (first | with_reducible exact Below.refl _ _ | with_reducible exact BW.out | with_reducible refine Below.setCell ?_ ?_ _ | with_reducible refine Below.alloc ?_ ?_ _ | with_reducible refine Below.drew ?_ | (simp; done) | (simp; omega) | omega)))).mono ?_; rintro e v1 ⟨rfl, hb⟩
  have SB := Lib.hid (Blk.below (blk_new _ _ _) hb)
  have BW := Lib.hid (show Below w.heap.size w v1 from Below.trans (by repeat' (first | with_reducible exact Below.refl _ _ | with_reducible exact BW.out | with_reducible refine Below.setCell ?_ ?_ _ | with_reducible refine Below.alloc ?_ ?_ _ | with_reducible refine Below.drew ?_ | (simp; done) | (simp; omega) | omega)) (hb.mono (by first | (simp; done) | (simp; omega) | omega))); clear hb
  cases hx : cmdOkB ⟨a0, a1, a2, a3, a4, a5, a6, a7⟩
  case false =>
    go_wp2
    go_ret
    exact ⟨ret_eq (by rw [HR.out, hx]; rfl), BW.out⟩
  case true =>
    rw [hx, if_pos rfl] at HR
    have hs0 : World.cell? v1 ⟨w.heap.size, 0, none⟩ = some (.int .i64 a0) := blk_cell0 (L := [.int .i64 a0, .int .i64 a1, .int .i64 a2, .string (bs a3), .string (bs a4), .string (bs a5), .int .i64 a6, .slice A0 a7.length k0]) SB.out 0 rfl
    have hs1 : World.cell? v1 ⟨w.heap.size, 1, none⟩ = some (.int .i64 a1) := blk_cell0 (L := [.int .i64 a0, .int .i64 a1, .int .i64 a2, .string (bs a3), .string (bs a4), .string (bs a5), .int .i64 a6, .slice A0 a7.length k0]) SB.out 1 rfl
    have hs2 : World.cell? v1 ⟨w.heap.size, 2, none⟩ = some (.int .i64 a2) := blk_cell0 (L := [.int .i64 a0, .int .i64 a1, .int .i64 a2, .string (bs a3), .string (bs a4), .string (bs a5), .int .i64 a6, .slice A0 a7.length k0]) SB.out 2 rfl
    have hs3 : World.cell? v1 ⟨w.heap.size, 3, none⟩ = some (.string (bs a3)) := blk_cell0 (L := [.int .i64 a0, .int .i64 a1, .int .i64 a2, .string (bs a3), .string (bs a4), .string (bs a5), .int .i64 a6, .slice A0 a7.length k0]) SB.out 3 rfl
    have hs4 : World.cell? v1 ⟨w.heap.size, 4, none⟩ = some (.string (bs a4)) := blk_cell0 (L := [.int .i64 a0, .int .i64 a1, .int .i64 a2, .string (bs a3), .string (bs a4), .string (bs a5), .int .i64 a6, .slice A0 a7.length k0]) SB.out 4 rfl
    have hs5 : World.cell? v1 ⟨w.heap.size, 5, none⟩ = some (.string (bs a5)) := blk_cell0 (L := [.int .i64 a0, .int .i64 a1, .int .i64 a2, .string (bs a3), .string (bs a4), .string (bs a5), .int .i64 a6, .slice A0 a7.length k0]) SB.out 5 rfl
    have hs6 : World.cell? v1 ⟨w.heap.size, 6, none⟩ = some (.int .i64 a6) := blk_cell0 (L := [.int .i64 a0, .int .i64 a1, .int .i64 a2, .string (bs a3), .string (bs a4), .string (bs a5), .int .i64 a6, .slice A0 a7.length k0]) SB.out 6 rfl
    have hs7 : World.cell? v1 ⟨w.heap.size, 7, none⟩ = some (.slice A0 a7.length k0) := blk_cell0 (L := [.int .i64 a0, .int .i64 a1, .int .i64 a2, .string (bs a3), .string (bs a4), .string (bs a5), .int .i64 a6, .slice A0 a7.length k0]) SB.out 7 rfl
    go_wp2
    refine wp_region_x 33 [0, 1, 3, 4, 7, 8, 11, 12, 15, 16, 19, 20, 23, 24, 27, 28, 29, 2, 5, 6, 9, 10, 13, 14, 17, 18, 21, 22, 25, 26, 30, 31, 32] (by kernel_rfl) (by kernel_rfl) ?_
    iterate 17 (refine wpX_quiet rfl (by kernel_rfl) rfl ?_; go_wp2; refine ⟨rfl, ?_⟩)
    refine wpX_actor rfl (by kernel_rfl) ?_
    go_wp2_with fail
    refine (sVar_any _ _).mono ?_; rintro e v2 ⟨rfl, hb⟩
    have HB := Lib.hid hb
    have hb2 := below_drewL hb; clear hb
    have hb := hb2; clear hb2
    have X := Lib.hid (show Below w.heap.size w v2 from BW.out.trans (hb.mono BW.out.size)); clear BW
    have BW := Lib.hid X.out; clear X
    have X := Lib.hid (SB.out.below hb); clear SB
    have SB := Lib.hid X.out; clear X
    clear hb
    go_wp2
    refine ⟨Ext.of_below HB.out, ?_⟩
    clear HB
    refine wpX_actor rfl (by kernel_rfl) ?_
    go_wp2_with fail
    refine (sVar_any _ _).mono ?_; rintro e v3 ⟨rfl, hb⟩
    have HB := Lib.hid hb
    have X := Lib.hid (show Below w.heap.size w v3 from BW.out.trans (hb.mono BW.out.size)); clear BW
    have BW := Lib.hid X.out; clear X
    have X := Lib.hid (SB.out.below hb); clear SB
    have SB := Lib.hid X.out; clear X
    clear hb
    go_wp2
    refine ⟨Ext.of_below HB.out, ?_⟩
    clear HB
    iterate 1 (refine wpX_quiet rfl (by kernel_rfl) rfl ?_; go_wp2; refine ⟨rfl, ?_⟩)
    refine wpX_actor rfl (by kernel_rfl) ?_
    go_wp2_with fail
    refine (sVar_any _ _).mono ?_; rintro e v4 ⟨rfl, hb⟩
    have HB := Lib.hid hb
    have X := Lib.hid (show Below w.heap.size w v4 from BW.out.trans (hb.mono BW.out.size)); clear BW
    have BW := Lib.hid X.out; clear X
    have X := Lib.hid (SB.out.below hb); clear SB
    have SB := Lib.hid X.out; clear X
    clear hb
    go_wp2
    refine ⟨Ext.of_below HB.out, ?_⟩
    clear HB
    iterate 1 (refine wpX_quiet rfl (by kernel_rfl) rfl ?_; go_wp2; refine ⟨rfl, ?_⟩)
    refine wpX_actor rfl (by kernel_rfl) ?_
    go_wp2_with fail
    refine (sVar_any _ _).mono ?_; rintro e v5 ⟨rfl, hb⟩
    have HB := Lib.hid hb
    have X := Lib.hid (show Below w.heap.size w v5 from BW.out.trans (hb.mono BW.out.size)); clear BW
    have BW := Lib.hid X.out; clear X
    have X := Lib.hid (SB.out.below hb); clear SB
    have SB := Lib.hid X.out; clear X
    clear hb
    go_wp2
    refine ⟨Ext.of_below HB.out, ?_⟩
    clear HB
    iterate 1 (refine wpX_quiet rfl (by kernel_rfl) rfl ?_; go_wp2; refine ⟨rfl, ?_⟩)
    refine wpX_actor rfl (by kernel_rfl) ?_
    go_wp2_with fail
    refine (sSized_any _ _ (by omega)).mono ?_; rintro e v6 ⟨rfl, hb⟩
    have HB := Lib.hid hb
    have X := Lib.hid (show Below w.heap.size w v6 from BW.out.trans (hb.mono BW.out.size)); clear BW
    have BW := Lib.hid X.out; clear X
    have X := Lib.hid (SB.out.below hb); clear SB
    have SB := Lib.hid X.out; clear X
    clear hb
    go_wp2
    refine ⟨Ext.of_below HB.out, ?_⟩
    clear HB
    iterate 1 (refine wpX_quiet rfl (by kernel_rfl) rfl ?_; go_wp2; refine ⟨rfl, ?_⟩)
    refine wpX_actor rfl (by kernel_rfl) ?_
    go_wp2_with fail
    refine (sSized_any _ _ (by omega)).mono ?_; rintro e v7 ⟨rfl, hb⟩
    have HB := Lib.hid hb
    have X := Lib.hid (show Below w.heap.size w v7 from BW.out.trans (hb.mono BW.out.size)); clear BW
    have BW := Lib.hid X.out; clear X
    have X := Lib.hid (SB.out.below hb); clear SB
    have SB := Lib.hid X.out; clear X
    clear hb
    go_wp2
    refine ⟨Ext.of_below HB.out, ?_⟩
    clear HB
    iterate 1 (refine wpX_quiet rfl (by kernel_rfl) rfl ?_; go_wp2; refine ⟨rfl, ?_⟩)
    refine wpX_actor rfl (by kernel_rfl) ?_
    go_wp2_with fail
    refine (sSized_any _ _ (by omega)).mono ?_; rintro e v8 ⟨rfl, hb⟩
    have HB := Lib.hid hb
    have X := Lib.hid (show Below w.heap.size w v8 from BW.out.trans (hb.mono BW.out.size)); clear BW
    have BW := Lib.hid X.out; clear X
    have X := Lib.hid (SB.out.below hb); clear SB
    have SB := Lib.hid X.out; clear X
    clear hb
    go_wp2
    refine ⟨Ext.of_below HB.out, ?_⟩
    clear HB
    iterate 1 (refine wpX_quiet rfl (by kernel_rfl) rfl ?_; go_wp2; refine ⟨rfl, ?_⟩)
    refine wpX_actor rfl (by kernel_rfl) ?_
    go_wp2_with fail
    refine (sVar_any _ _).mono ?_; rintro e v9 ⟨rfl, hb⟩
    have HB := Lib.hid hb
    have X := Lib.hid (show Below w.heap.size w v9 from BW.out.trans (hb.mono BW.out.size)); clear BW
    have BW := Lib.hid X.out; clear X
    have X := Lib.hid (SB.out.below hb); clear SB
    have SB := Lib.hid X.out; clear X
    clear hb
    go_wp2
    refine ⟨Ext.of_below HB.out, ?_⟩
    clear HB
    iterate 2 (refine wpX_quiet rfl (by kernel_rfl) rfl ?_; go_wp2; refine ⟨rfl, ?_⟩)
    refine wpX_nil ?_
    try simp only [List.drop_succ_cons, List.drop_zero]
    clear hs0 hs1 hs2 hs3 hs4 hs5 hs6 hs7
    have hs7 : World.cell? v9 ⟨w.heap.size, 7, none⟩ = some (.slice A0 a7.length k0) := blk_cell0 (L := [.int .i64 a0, .int .i64 a1, .int .i64 a2, .string (bs a3), .string (bs a4), .string (bs a5), .int .i64 a6, .slice A0 a7.length k0]) SB.out 7 rfl
    obtain ⟨A, c, he, hR⟩ := (S0.out.below BW.out).strs
    injection he with he1 _ he2
    subst he1 he2
    have HC := Lib.hid hR; clear hR
    obtain ⟨m, hm⟩ : ∃ m, m = a7.length := ⟨_, rfl⟩
    rw [← hm] at HC hs7 e7 hv7 SB HR ⊢
    have HM := Lib.hid hm; clear hm
    have hl : (varF a0 ++ (varF a1 ++ (varF a2 ++ (varF a6 ++ (sizedL a3 ++ (sizedL a4 ++ (sizedL a5 ++ varF (m : Int)))))))).length ≤ 4000000 := by simp only [List.length_append]; omega
    clear hv0 hv1 hv2 hv3 hv4 hv5 hv6 hv7
    generalize varF a0 ++ (varF a1 ++ (varF a2 ++ (varF a6 ++ (sizedL a3 ++ (sizedL a4 ++ (sizedL a5 ++ varF (m : Int))))))) = hd at *
    go_wp2
    go_loop [3, 4] (fun oo ii => ∃ j : Nat, j ≤ m ∧ ii = .int .i64 (j : Int) ∧ oo = .string (bs (hd ++ (a7.take j).flatten))) (fun _ ii => m - (intOf ii).toNat)
    case atStart => exact ⟨0, Nat.zero_le _, rfl, by simp⟩
    case round =>
      obtain ⟨j, hj, rfl, rfl⟩ := hrel
      by_cases hlt : j < m
      · have hjx : j < a7.length := by have := HM.out; omega
        obtain ⟨ad, rfl, hcells⟩ := HC.out.2 (by omega)
        have hc := hcells j (strv a7[j]) (by rw [List.getElem?_map, List.getElem?_eq_getElem hjx]; rfl)
        have hc2 : World.cell? v9 (ad.add j) = some (.string (bs a7[j])) := hc
        have hst := flat_take a7 j hjx
        have hb1 := flat_take_le a7 (j + 1)
        rw [hst, List.length_append] at hb1
        clear hc hcells
        generalize a7[j] = x at *
        generalize (a7.take j).flatten = acc at *
        have hb2 : acc.length + x.length ≤ 1048576 := by omega
        have HST := Lib.hid hst; clear hst hb1
        go_wp2
        exact ⟨⟨j + 1, by omega, by go_num, by rw [HST.out]⟩, by simp only [intOf]; omega⟩
      · have hjn : j = m := by omega
        subst hjn
        have hf : a7.take j = a7 := List.take_of_length_le (by have := HM.out; omega)
        rw [hf]
        clear hf
        go_wp2
        go_ret
        exact ⟨ret_eq (by rw [HR.out]; rfl), BW.out⟩


attribute [irreducible] showCmdL

end Go.Proofs.Ytinacpjelephoaa
