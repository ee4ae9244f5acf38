/-
  A command read by places: spec.ReadCmd. Condition: a bound on the size.
-/
import Derived.Test.YtinacpjelephoaaReadC
import Derived.Test.YtinacpjelephoaaRegH
namespace Go.Proofs.Ytinacpjelephoaa
open Go.RowKit

theorem _root_.Go.World.ownsRow.keptBelow {w w' : World} {base e sz n : Nat} {v : Value} {xs : List Value} (h : w.ownsRow base e sz v n xs) (hb : Below w.heap.size w w') : w'.ownsRow base e sz v n xs :=
  ownsRow_keep h (fun b hk => ⟨(h.lt b hk).1, hb.block b (h.lt b hk).2⟩)
theorem bReadCmd (s : List UInt8) (h : s.length ≤ 1048576) : (fReadCmd s).1.c.wt ≤ 4611686018427387 ∧ (fReadCmd s).1.cntT ≤ 4611686018427387 := by
  have key : ∀ c : CmdD, c.c.wt ≤ 1048576 → c.c.wt ≤ 4611686018427387 ∧ c.cntT ≤ 4611686018427387 := fun c hc => by
    have h1 : c.cntT = cts (fun _ => 1) c.chunks := rfl
    have h2 : cts (fun _ : List UInt8 => 1) c.chunks = c.chunks.length := cts_one _
    have h3 := wt_cmd c
    omega
  refine key _ ?_
  unfold fReadCmd
  split
  · exact Nat.le_trans (parseC_wt s) h
  · exact Nat.zero_le _
theorem l4V_adv (s : List UInt8) : ∀ (n : Nat) (at_ : Int), 0 ≤ (l4V s n at_).2 → at_ + n ≤ (l4V s n at_).2 ∧ 0 ≤ at_
  | 0, at_, h => by simp only [l4V] at h ⊢; omega
  | n + 1, at_, h => by
    by_cases hb : at_ < 0 ∨ at_ > s.length
    · rw [l4V_bad s n _ hb] at h; simp at h
    · by_cases h0 : (readVarF (s.drop at_.toNat)).2 = 0
      · rw [l4V_zero s n _ hb h0] at h; simp at h
      · rw [l4V_next s n _ hb h0] at h ⊢
        have := l4V_adv s n _ h
        simp only [] at this ⊢
        omega
theorem l4T_adv (s : List UInt8) (at_ : Int) (h : 0 ≤ (l4T s at_).2) : at_ + 1 + (l4T s at_).1.length ≤ (l4T s at_).2 ∧ 0 ≤ at_ := by
  unfold l4T at h ⊢
  split at h
  · simp at h
  · rename_i hc
    rw [if_neg hc]
    have hc1 : 0 ≤ (l4V s 1 at_).2 := Int.not_lt.1 fun hh => hc (.inl hh)
    have := l4V_adv s 1 at_ hc1
    simp only [List.length_take, List.length_drop]
    omega
theorem placeC_wt {s : List UInt8} {l : List Nat} {ta tb tt : List UInt8} {p0 p1 p2 p3 p4 : Int} {n : Nat} (hV : l4V s 4 0 = (l, p0)) (hA : l4T s p0 = (ta, p1)) (hB : l4T s p1 = (tb, p2)) (hT : l4T s p2 = (tt, p3)) (hN : l4V s 1 p3 = ([n], p4))
    (h4 : 0 ≤ p4) (hn : n ≤ 4) (hl : (s.length : Int) = p4 + 8 * n) : (placeC s).c.wt ≤ s.length := by
  have e4 := l4V_adv s 1 p3 (by rw [hN]; exact h4)
  rw [hN] at e4
  have e3 := l4T_adv s p2 (by rw [hT]; exact e4.2)
  rw [hT] at e3
  have e2 := l4T_adv s p1 (by rw [hB]; exact e3.2)
  rw [hB] at e2
  have e1 := l4T_adv s p0 (by rw [hA]; exact e2.2)
  rw [hA] at e1
  have e0 := l4V_adv s 4 0 (by rw [hV]; exact e1.2)
  rw [hV] at e0
  rw [wt_cmd]
  unfold placeC
  simp only [hV, hA, hB, hT, hN, List.getD_cons_zero] at *
  have hf : ∀ k, (chunksAt s p4.toNat k).flatten.length ≤ 8 * k := fun k => by
    induction k with
    | zero => simp [chunksAt]
    | succ k ih =>
      rw [chunksAt, List.flatten_append, List.length_append]
      simp only [List.flatten_cons, List.flatten_nil, List.append_nil, List.length_take]
      omega
  have := hf n
  have hk := chunksAt_length s p4.toNat n
  omega

set_option maxRecDepth 100000 in
set_option maxHeartbeats 8000000 in
theorem sReadCmd_any (s : List UInt8) (w : World) (hs : s.length ≤ 1048576) :
    Calls Try.prog 21 #[.string (bs s)] w fun e w' => ∃ cs', e = .returned (.tuple #[.agg cs'.toArray, .bool (fReadCmd s).2]) ∧ Mine w' w.heap.size (fReadCmd s).1.c cs' ∧ Below w.heap.size w w' := by
  obtain ⟨R, hR⟩ : ∃ R, R = fReadCmd s := ⟨_, rfl⟩
  rw [← hR]
  obtain ⟨l, p0, hV⟩ : ∃ a b, l4V s 4 0 = (a, b) := ⟨_, _, rfl⟩
  obtain ⟨ta, p1, hA⟩ : ∃ a b, l4T s p0 = (a, b) := ⟨_, _, rfl⟩
  obtain ⟨tb, p2, hB⟩ : ∃ a b, l4T s p1 = (a, b) := ⟨_, _, rfl⟩
  obtain ⟨tt, p3, hT⟩ : ∃ a b, l4T s p2 = (a, b) := ⟨_, _, rfl⟩
  obtain ⟨ln, p4, hN⟩ : ∃ a b, l4V s 1 p3 = (a, b) := ⟨_, _, rfl⟩
  have q0 := l4V_range s 4 0 (by omega) (.inr (by omega))
  rw [hV] at q0
  have q1 := l4T_range s p0 q0.1
  rw [hA] at q1
  have q2 := l4T_range s p1 q1.1
  rw [hB] at q2
  have q3 := l4T_range s p2 q2.1
  rw [hT] at q3
  have q4 := l4V_range s 1 p3 q3.1 (.inr (by omega))
  rw [hN] at q4
  have k0 := l4V_len s 4 0
  rw [hV] at k0
  have k4 := l4V_len s 1 p3
  rw [hN] at k4
  have la := l4T_len s p0
  rw [hA] at la
  have lb := l4T_len s p1
  rw [hB] at lb
  have lt := l4T_len s p2
  rw [hT] at lt
  simp only [] at q0 q1 q2 q3 q4 k0 k4 la lb lt
  obtain ⟨q0a, q0b⟩ := q0
  obtain ⟨q1a, q1b⟩ := q1
  obtain ⟨q2a, q2b⟩ := q2
  obtain ⟨q3a, q3b⟩ := q3
  obtain ⟨q4a, q4b⟩ := q4
  have la' : ta.length ≤ 1048576 := by omega
  have lb' : tb.length ≤ 1048576 := by omega
  have lt' : tt.length ≤ 1048576 := by omega
  clear la lb lt
  have F1 := @readCmd_s1 s
  have F3 := @readCmd_s3 s
  have F2 := fun n m => @readCmd_s2 s n m
  simp only [hV, hA, hB, hT, hN, ← hR] at F1 F2 F3
  have F4 := @readCmd_s4 s
  have F5 := @readCmd_s5 s
  rw [← hR] at F4 F5
  have HF1 := Lib.hid F1; clear F1
  have HF2 := Lib.hid F2; clear F2
  have HF3 := Lib.hid F3; clear F3
  have HF4 := Lib.hid F4; clear F4
  have HF5 := Lib.hid F5; clear F5
  have HK0 := Lib.hid k0; clear k0
  have HK4 := Lib.hid k4; clear k4
  have HV := Lib.hid hV; clear hV
  have HA := Lib.hid hA; clear hA
  have HB := Lib.hid hB; clear hB
  have HT := Lib.hid hT; clear hT
  have HN := Lib.hid hN; clear hN
  clear hR
  go_enter Try.func21, Try.ntmps21
  go_wp2_with fail
  refine (l4Vars_any s 0 4 _ (by omega) ⟨by omega, by omega⟩ (by omega)).mono ?_; rintro e v1 ⟨vl, rfl, hown, hb⟩
  rw [HV.out] at hown ⊢
  simp only [] at hown ⊢
  have ZB := Lib.hid (Blk.below (blk_new w #[.int .i64 0, .int .i64 0, .int .i64 0, .string (bs []), .string (bs []), .string (bs []), .int .i64 0, .slice none 0 0] 38) hb)
  have BW := Lib.hid (show Below w.heap.size w v1 from Below.trans (by repeat' (first | with_reducible exact Below.refl _ _ | with_reducible exact BW.out | with_reducible refine Below.setCell ?_ ?_ _ | with_reducible refine Below.alloc ?_ ?_ _ | with_reducible refine Below.drew ?_ | (simp; done) | (simp; omega) | omega)) (hb.mono (by first | (simp; done) | (simp; omega) | omega)))
  have HZ := Lib.hid (show w.heap.size + 1 ≤ v1.heap.size from Nat.le_trans (by simp) hb.size); clear hb
  have hown := ownsRow_keep (base' := w.heap.size + 1) hown (w' := v1) (fun k hk => ⟨by have := (hown.lt k hk).1; simp at this; omega, rfl⟩)
  by_cases h0 : p0 < 0
  · skip
    have hRz := HF1.out h0
    subst hRz
    go_wp2_with (first | ((with_reducible show wpList _ _ _ ({ dst := _, op := Op.store 38 _ _, type := _, pos := _, after := _, guard := _ } :: _) _ _); refine wpList_store_row _ w.heap.size 38 0 [.int .i64 0, .int .i64 0, .int .i64 0, .string (bs []), .string (bs []), .string (bs []), .int .i64 0, .slice none 0 0] [] [.int .i64 0, .int .i64 0, .int .i64 0, .string (bs []), .string (bs []), .string (bs []), .int .i64 0, .slice none 0 0] [] _ rfl rfl agg_Cmd ZB.out rfl rfl rfl (by simp [Value.oneCell']) ?_; intro v9 hzb hzg) | fail)
    exact bodyPost_cell2 rfl ⟨w.heap.size, 0, none⟩ rfl [.int .i64 0, .int .i64 0, .int .i64 0, .string (bs []), .string (bs []), .string (bs []), .int .i64 0, .slice none 0 0] _ rfl agg_Cmd rfl (blk_cells hzb) rfl ⟨_, rfl, zeroCmd_mine _ _, Below.grown BW.out hzg BW.out.size (fun k hk => by injection hk with hk; omega)⟩
  · have hl4 := HK0.out.2.1 (by omega)
    obtain ⟨x0, x1, x2, x3, rfl⟩ : ∃ a b c d, l = [a, b, c, d] := by
      match l, hl4 with
      | [a, b, c, d], _ => exact ⟨a, b, c, d, rfl⟩
    clear hl4
    obtain ⟨gl, cl, rfl, hgl1, hgl2⟩ := own_form hown (by simp)
    have HL := Lib.hid hown; clear hown hgl2
    go_wp2_with fail
    refine (l4Take_any s p0 _ (by omega) ⟨by omega, by omega⟩).mono ?_; rintro e v2 ⟨rfl, hb⟩
    rw [HA.out]
    simp only []
    have X := Lib.hid (ZB.out.below hb); clear ZB
    have ZB := Lib.hid X.out; clear X
    have X := Lib.hid (HL.out.keptBelow hb); clear HL
    have HL := Lib.hid X.out; clear X
    have X := Lib.hid (Nat.le_trans HZ.out hb.size); clear HZ
    have HZ := Lib.hid X.out; clear X
    have X := Lib.hid (show Below w.heap.size w v2 from BW.out.trans (hb.mono BW.out.size)); clear BW hb
    have BW := Lib.hid X.out; clear X
    go_wp2_with fail
    refine (l4Take_any s p1 _ (by omega) ⟨by omega, by omega⟩).mono ?_; rintro e v3 ⟨rfl, hb⟩
    rw [HB.out]
    simp only []
    have X := Lib.hid (ZB.out.below hb); clear ZB
    have ZB := Lib.hid X.out; clear X
    have X := Lib.hid (HL.out.keptBelow hb); clear HL
    have HL := Lib.hid X.out; clear X
    have X := Lib.hid (Nat.le_trans HZ.out hb.size); clear HZ
    have HZ := Lib.hid X.out; clear X
    have X := Lib.hid (show Below w.heap.size w v3 from BW.out.trans (hb.mono BW.out.size)); clear BW hb
    have BW := Lib.hid X.out; clear X
    go_wp2_with fail
    refine (l4Take_any s p2 _ (by omega) ⟨by omega, by omega⟩).mono ?_; rintro e v4 ⟨rfl, hb⟩
    rw [HT.out]
    simp only []
    have X := Lib.hid (ZB.out.below hb); clear ZB
    have ZB := Lib.hid X.out; clear X
    have X := Lib.hid (HL.out.keptBelow hb); clear HL
    have HL := Lib.hid X.out; clear X
    have X := Lib.hid (Nat.le_trans HZ.out hb.size); clear HZ
    have HZ := Lib.hid X.out; clear X
    have X := Lib.hid (show Below w.heap.size w v4 from BW.out.trans (hb.mono BW.out.size)); clear BW hb
    have BW := Lib.hid X.out; clear X
    go_wp2_with fail
    refine (l4Vars_any s p3 1 _ (by omega) ⟨by omega, by omega⟩ (by omega)).mono ?_; rintro e v5 ⟨vn, rfl, hown, hb⟩
    rw [HN.out] at hown ⊢
    simp only [] at hown ⊢
    have hown := ownsRow_keep (base' := w.heap.size + 1) hown (w' := v5) (fun k hk => ⟨by have := (hown.lt k hk).1; have := HZ.out; omega, rfl⟩)
    have X := Lib.hid (ZB.out.below hb); clear ZB
    have ZB := Lib.hid X.out; clear X
    have X := Lib.hid (HL.out.keptBelow hb); clear HL
    have HL := Lib.hid X.out; clear X
    have X := Lib.hid (Nat.le_trans HZ.out hb.size); clear HZ
    have HZ := Lib.hid X.out; clear X
    have X := Lib.hid (show Below w.heap.size w v5 from BW.out.trans (hb.mono BW.out.size)); clear BW hb
    have BW := Lib.hid X.out; clear X
    by_cases h4 : p4 < 0
    · skip
      have hRz := HF3.out h4
      subst hRz
      go_wp2_with (first | ((with_reducible show wpList _ _ _ ({ dst := _, op := Op.store 38 _ _, type := _, pos := _, after := _, guard := _ } :: _) _ _); refine wpList_store_row _ w.heap.size 38 0 [.int .i64 0, .int .i64 0, .int .i64 0, .string (bs []), .string (bs []), .string (bs []), .int .i64 0, .slice none 0 0] [] [.int .i64 0, .int .i64 0, .int .i64 0, .string (bs []), .string (bs []), .string (bs []), .int .i64 0, .slice none 0 0] [] _ rfl rfl agg_Cmd ZB.out rfl rfl rfl (by simp [Value.oneCell']) ?_; intro v9 hzb hzg) | fail)
      exact bodyPost_cell2 rfl ⟨w.heap.size, 0, none⟩ rfl [.int .i64 0, .int .i64 0, .int .i64 0, .string (bs []), .string (bs []), .string (bs []), .int .i64 0, .slice none 0 0] _ rfl agg_Cmd rfl (blk_cells hzb) rfl ⟨_, rfl, zeroCmd_mine _ _, Below.grown BW.out hzg BW.out.size (fun k hk => by injection hk with hk; omega)⟩
    · have hn1 := HK4.out.2.1 (by omega)
      obtain ⟨n, rfl⟩ : ∃ a, ln = [a] := by
        match ln, hn1 with
        | [a], _ => exact ⟨a, rfl⟩
      have hnb := HK4.out.2.2 n (by simp)
      clear hn1
      obtain ⟨gn, cn, rfl, hgn1, hgn2⟩ := own_form hown (by simp)
      have HNN := Lib.hid hown; clear hown hgn2
      have hn0 : v5.cell? ⟨gn, 0, none⟩ = some (.int .i64 (n : Int)) := World.ownsRow.cells (g := gn) HNN.out rfl 0 _ rfl
      obtain ⟨P, rfl⟩ := Int.eq_ofNat_of_zero_le (show 0 ≤ p4 by omega)
      by_cases hn4 : 4 < n
      · have hn4' : (4 : Int) < (n : Int) := by omega
        have hRz := HF2.out n _ rfl (.inl hn4)
        subst hRz
        go_wp2_with (first | ((with_reducible show wpList _ _ _ ({ dst := _, op := Op.store 38 _ _, type := _, pos := _, after := _, guard := _ } :: _) _ _); refine wpList_store_row _ w.heap.size 38 0 [.int .i64 0, .int .i64 0, .int .i64 0, .string (bs []), .string (bs []), .string (bs []), .int .i64 0, .slice none 0 0] [] [.int .i64 0, .int .i64 0, .int .i64 0, .string (bs []), .string (bs []), .string (bs []), .int .i64 0, .slice none 0 0] [] _ rfl rfl agg_Cmd ZB.out rfl rfl rfl (by simp [Value.oneCell']) ?_; intro v9 hzb hzg) | fail)
        exact bodyPost_cell2 rfl ⟨w.heap.size, 0, none⟩ rfl [.int .i64 0, .int .i64 0, .int .i64 0, .string (bs []), .string (bs []), .string (bs []), .int .i64 0, .slice none 0 0] _ rfl agg_Cmd rfl (blk_cells hzb) rfl ⟨_, rfl, zeroCmd_mine _ _, Below.grown BW.out hzg BW.out.size (fun k hk => by injection hk with hk; omega)⟩
      by_cases hsl : (s.length : Int) = (P : Int) + 8 * (n : Int)
      case neg =>
        have hsl2 : ((s.length : Int) != (P : Int) + 8 * (n : Int)) = true := by simpa using hsl
        have hRz := HF2.out n _ rfl (.inr hsl)
        subst hRz
        go_wp2_with (first | ((with_reducible show wpList _ _ _ ({ dst := _, op := Op.store 38 _ _, type := _, pos := _, after := _, guard := _ } :: _) _ _); refine wpList_store_row _ w.heap.size 38 0 [.int .i64 0, .int .i64 0, .int .i64 0, .string (bs []), .string (bs []), .string (bs []), .int .i64 0, .slice none 0 0] [] [.int .i64 0, .int .i64 0, .int .i64 0, .string (bs []), .string (bs []), .string (bs []), .int .i64 0, .slice none 0 0] [] _ rfl rfl agg_Cmd ZB.out rfl rfl rfl (by simp [Value.oneCell']) ?_; intro v9 hzb hzg) | fail)
        exact bodyPost_cell2 rfl ⟨w.heap.size, 0, none⟩ rfl [.int .i64 0, .int .i64 0, .int .i64 0, .string (bs []), .string (bs []), .string (bs []), .int .i64 0, .slice none 0 0] _ rfl agg_Cmd rfl (blk_cells hzb) rfl ⟨_, rfl, zeroCmd_mine _ _, Below.grown BW.out hzg BW.out.size (fun k hk => by injection hk with hk; omega)⟩
      have hn4' : ¬ (4 : Int) < (n : Int) := by omega
      have hsl2 : ((s.length : Int) != (P : Int) + 8 * (n : Int)) = false := by simpa using hsl
      have HSN := Lib.hid (show 1 ≤ s.length by have hh := l4V_adv s 1 p3 (by rw [HN.out]; simp only []; omega); rw [HN.out] at hh; simp only [] at hh; omega)
      have HWT := Lib.hid (Nat.le_trans (placeC_wt HV.out HA.out HB.out HT.out HN.out (by omega) (by omega) hsl) hs)
      have hpc : placeC s = ⟨(x0 : Int), (x1 : Int), (x2 : Int), ta, tb, tt, (x3 : Int), chunksAt s P n⟩ := by
        unfold placeC
        simp only [HV.out, HA.out, HB.out, HT.out, HN.out, List.getD_cons_zero, List.getD_cons_succ, Int.toNat_natCast]
      have HPC := Lib.hid hpc; clear hpc
      have hc0 : v5.cell? ⟨gl, 0, none⟩ = some (.int .i64 (x0 : Int)) := World.ownsRow.cells (g := gl) HL.out rfl 0 _ rfl
      have hc1 : v5.cell? ⟨gl, 1, none⟩ = some (.int .i64 (x1 : Int)) := World.ownsRow.cells (g := gl) HL.out rfl 1 _ rfl
      have hc2 : v5.cell? ⟨gl, 2, none⟩ = some (.int .i64 (x2 : Int)) := World.ownsRow.cells (g := gl) HL.out rfl 2 _ rfl
      have hc3 : v5.cell? ⟨gl, 3, none⟩ = some (.int .i64 (x3 : Int)) := World.ownsRow.cells (g := gl) HL.out rfl 3 _ rfl
      go_wp2
      refine wp_region_h 17 [] [0, 1, 2, 3, 4, 5, 6, 7, 8, 9, 10, 11, 12, 13, 14, 15, 16] [17] (by kernel_rfl) (by kernel_rfl) ?_
      refine wpFl_nil ?_
      iterate 15 (refine wpH_quiet rfl rfl (by kernel_rfl) rfl ?_; go_wp2; refine ⟨rfl, ?_⟩)
      refine wpH_build rfl rfl rfl #[.int .i64 (x0 : Int), .int .i64 (x1 : Int), .int .i64 (x2 : Int), .string (bs ta), .string (bs tb), .string (bs tt), .int .i64 (x3 : Int), .slice none 0 0] (by kernel_rfl) ?_
      refine wpH_actor rfl rfl (by kernel_rfl) ?_
      go_wp2
      refine ⟨Ext.alloc (Ext.refl _) _, ?_⟩
      refine wpH_nil ?_
      simp only [pickOps, List.getElem?_toArray, List.getElem?_cons_succ, List.getElem?_cons_zero]
      obtain ⟨gc, hgc⟩ : ∃ g, g = v5.heap.size := ⟨_, rfl⟩
      have HGE := Lib.hid hgc; clear hgc
      clear hn0 hc0 hc1 hc2 hc3
      have HNN0 := Lib.hid HNN.out
      go_wp2_with (first | ((with_reducible show wpList _ _ _ ({ dst := _, op := Op.store 38 _ _, type := _, pos := _, after := _, guard := _ } :: _) _ _); refine wpList_store_row _ v5.heap.size 38 0 [.int .i64 (x0 : Int), .int .i64 (x1 : Int), .int .i64 (x2 : Int), .string (bs ta), .string (bs tb), .string (bs tt), .int .i64 (x3 : Int), .slice none 0 0] [] [.int .i64 0, .int .i64 0, .int .i64 0, .string (bs []), .string (bs []), .string (bs []), .int .i64 0, .slice none 0 0] [] _ rfl rfl agg_Cmd ((blk_new v5 _ _).drew) rfl rfl rfl (by simp [Value.oneCell']) ?_; intro v6 hsb hsg) | fail)
      refine ⟨trivial, ?_⟩
      rw [← HGE.out] at hsb hsg ⊢
      have CB := Lib.hid (show Blk v6 gc 38 [.int .i64 (x0 : Int), .int .i64 (x1 : Int), .int .i64 (x2 : Int), .string (bs ta), .string (bs tb), .string (bs tt), .int .i64 (x3 : Int), .slice none 0 0].toArray by simpa using hsb)
      have HGC := Lib.hid (show w.heap.size + 1 ≤ gc by rw [HGE.out]; exact HZ.out)
      have X := Lib.hid ((ZB.out.alloc _).drew.grown hsg (fun e => by have := HGC.out; omega))
      clear ZB
      have ZB := Lib.hid X.out
      clear X
      have X := Lib.hid ((HNN.out.alloc _).drew.kept hsg (.inr (fun e => by have h1 := (HNN.out.lt gn rfl).2; have h2 := HGE.out; have e2 : some gn = some gc := e; injection e2 with e2; omega)))
      clear HNN
      have HNN := Lib.hid X.out
      clear X
      have X := Lib.hid (Below.grown (BW.out.alloc BW.out.size _).drew hsg (Nat.le_trans BW.out.size (by simp)) (fun k hk => by injection hk with hk; have := HGC.out; omega))
      clear BW
      have BW := Lib.hid X.out
      clear X
      have HGB := Lib.hid (show gc + 1 ≤ v6.heap.size from Nat.le_trans (by rw [HGE.out]; simp) hsg.size)
      have HGN := Lib.hid (show gn < gc by rw [HGE.out]; exact (HNN0.out.lt gn rfl).2)
      clear hsb hsg
      go_wp2
      clear HNN0 HL hnb HV HA HB HT HN HK0 HK4 HF1 HF2 HF3
      go_loopw [11] (fun ii wr => ∃ (j : Nat) (Aj : Option Addr) (kj : Nat), j ≤ n ∧ ii = .int .i64 (j : Int) ∧ Blk wr w.heap.size 38 [.int .i64 0, .int .i64 0, .int .i64 0, .string (bs []), .string (bs []), .string (bs []), .int .i64 0, .slice none 0 0].toArray ∧ Blk wr gc 38 [.int .i64 (x0 : Int), .int .i64 (x1 : Int), .int .i64 (x2 : Int), .string (bs ta), .string (bs tb), .string (bs tt), .int .i64 (x3 : Int), .slice Aj j kj].toArray ∧ wr.ownsRow (gc + 1) 9 1 (.slice Aj j kj) j ((chunksAt s P j).map strv) ∧ wr.ownsRow (w.heap.size + 1) 3 1 (.slice (some ⟨gn, 0, none⟩) 1 cn) 1 [natv n] ∧ Below w.heap.size w wr ∧ gc + 1 ≤ wr.heap.size) (fun ii _ => n - (intOf ii).toNat)
      case atStart => exact ⟨0, none, 0, Nat.zero_le _, rfl, ZB.out, CB.out, ⟨by simp [chunksAt], .inl ⟨rfl, rfl⟩⟩, HNN.out, BW.out, HGB.out⟩
      case round =>
        obtain ⟨j, Aj, kj, hj, rfl, hzb, hcb, hown, hnn, hbw, hgb⟩ := hrel
        clear ZB CB HNN BW HGB HZ
        have ZB := Lib.hid hzb; clear hzb
        have CB := Lib.hid hcb; clear hcb
        have HO := Lib.hid hown; clear hown
        have HNN := Lib.hid hnn; clear hnn
        have BW := Lib.hid hbw; clear hbw
        have HGB := Lib.hid hgb; clear hgb
        have hn0 : wr.cell? ⟨gn, 0, none⟩ = some (.int .i64 (n : Int)) := World.ownsRow.cells (g := gn) HNN.out rfl 0 _ rfl
        by_cases hlt : j < n
        · have hjn : (j : Int) < (n : Int) := by omega
          have hjP : P + 8 * j + 8 ≤ s.length := by omega
          have hcx : wr.cell? ⟨gc, 7, none⟩ = some (.slice Aj j kj) := blk_cell0 (L := [.int .i64 (x0 : Int), .int .i64 (x1 : Int), .int .i64 (x2 : Int), .string (bs ta), .string (bs tb), .string (bs tt), .int .i64 (x3 : Int), .slice Aj j kj]) CB.out 7 rfl
          have hst : (chunksAt s P (j + 1)) = chunksAt s P j ++ [(s.drop (P + 8 * j)).take 8] := by rw [chunksAt]
          have HST := Lib.hid hst; clear hst
          clear hsl hsl2
          go_wp2
          refine wp_region_x 14 [0, 1, 2, 3, 4, 5, 6, 7, 8, 9, 10, 11, 12, 13] (by kernel_rfl) (by kernel_rfl) ?_
          iterate 12 (refine wpX_quiet rfl (by kernel_rfl) rfl ?_; go_wp2; refine ⟨rfl, ?_⟩)
          refine wpX_quiet rfl (by kernel_rfl) rfl ?_; go_wp2; refine ⟨rfl, ?_⟩
          refine wpX_actor rfl (by kernel_rfl) ?_
          go_wp2
          refine ⟨Ext.alloc (Ext.refl _) _, ?_⟩
          refine wpX_nil ?_; simp only [List.drop_succ_cons, List.drop_zero]
          clear hcx
          go_wp2_with (first | (at_builtin; go_must (refine wpList_app E_str _ rfl _ _ rfl (gc + 1) _ j _ rfl ((HO.out.alloc _).drew) _ _ _ _ rfl (Reads.new rfl) (one1 rfl) (by omega) (Nat.le_trans HGB.out (by simp)) ?_; intro vv w3 hown3 hg3 hat3; obtain ⟨Av, kv, rfl, _⟩ := SlR.of_own hown3; have hgb3 : ∀ k, (Value.slice Aj j kj).ownBlock = some k → gc < k := (fun k hk => by have := (HO.out.lt k hk).1; omega); have hcb3 := Blk.keep ((CB.out.alloc (.cells #[.string (bs ((s.drop (P + 8 * j)).take 8))] 9)).drew) (hg3.block _ (CB.out.alloc _).lt (fun e => by have := hgb3 _ e.symm; omega)); have hq3 : w3.cell? ⟨gc, 7, none⟩ = some (.slice Aj j kj) := blk_cell0 (L := [.int .i64 (x0 : Int), .int .i64 (x1 : Int), .int .i64 (x2 : Int), .string (bs ta), .string (bs tb), .string (bs tt), .int .i64 (x3 : Int), .slice Aj j kj]) hcb3 7 rfl; have hfz3 : w3.frozen? ⟨gc, 7, none⟩ = false := hcb3.frozen 7; have HCB3 := Lib.hid hcb3; have HO3 := Lib.hid hown3; have HG3 := Lib.hid hg3; have HGB3 := Lib.hid hgb3; have HAT3 := Lib.hid hat3; clear hcb3 hown3 hg3 hgb3 hat3)) | fail)
          have hsz3 : wr.heap.size + 1 ≤ w3.heap.size := Nat.le_trans (by simp) HG3.out.size
          have hbv : ∀ k, (Value.slice Av (j + 1) kv).ownBlock = some k → gc < k := fun k hk => by
            rcases HAT3.out with h | h
            · exact HGB3.out k (h.symm.trans hk)
            · have e := hk.symm.trans h
              injection e with e
              have := HGB.out
              simp at e
              omega
          have hzb3 := Blk.keep ((ZB.out.alloc (.cells #[.string (bs ((s.drop (P + 8 * j)).take 8))] 9)).drew) (HG3.out.block _ (ZB.out.alloc _).lt (fun e => by have := HGB3.out _ e.symm; have := HGC.out; omega))
          have hnn3 := ownsRow_keep (base' := w.heap.size + 1) ((HNN.out.alloc (.cells #[.string (bs ((s.drop (P + 8 * j)).take 8))] 9)).drew) (w' := w3) (fun k hk => ⟨(HNN.out.lt k hk).1, HG3.out.block _ ((HNN.out.alloc _).lt k hk).2 (fun e => by have := HGB3.out _ e.symm; have := HGN.out; have e2 : some gn = some k := hk; injection e2 with e2; omega)⟩)
          have hbw3 : Below w.heap.size w w3 := Below.grown ((BW.out.alloc BW.out.size _).drew) HG3.out (Nat.le_trans BW.out.size (by simp)) (fun k hk => by have := HGB3.out k hk; have := HGC.out; omega)
          have hown4 : (w3.setCell ⟨gc, 7, none⟩ (.slice Av (j + 1) kv)).ownsRow (gc + 1) 9 1 (.slice Av (j + 1) kv) (j + 1) ((chunksAt s P (j + 1)).map strv) := by
            rw [HST.out, List.map_append]
            exact ownsRow_keep HO3.out (fun k hk => ⟨(HO3.out.lt k hk).1, Below.heap_setCell _ _ _ _ (fun e => by have := hbv k hk; have e2 : k = gc := e; omega)⟩)
          have hnn4 : (w3.setCell ⟨gc, 7, none⟩ (.slice Av (j + 1) kv)).ownsRow (w.heap.size + 1) 3 1 (.slice (some ⟨gn, 0, none⟩) 1 cn) 1 [natv n] := ownsRow_keep hnn3 (fun k hk => ⟨(hnn3.lt k hk).1, Below.heap_setCell _ _ _ _ (fun e => by have := HGN.out; have e1 : some gn = some k := hk; injection e1 with e1; have e2 : k = gc := e; omega)⟩)
          exact ⟨⟨j + 1, Av, kv, by omega, by go_num, Blk.setOther hzb3 (a := ⟨gc, 7, none⟩) (by have := HGC.out; show gc ≠ _; omega) _, blk_put0 HCB3.out 7 _, hown4, hnn4, Below.setCell hbw3 (p := ⟨gc, 7, none⟩) (by have := HGC.out; show _ ≤ gc; omega) _, by rw [setCell_size]; have := HGB.out; omega⟩, by simp only [intOf]; omega⟩
        · have hjn : j = n := by omega
          subst hjn
          have hnl : ¬ (j : Int) < (j : Int) := by omega
          have hchl := chunksAt_length s P j
          obtain ⟨cc, hcc⟩ : ∃ cc : CmdD, cc = ⟨(x0 : Int), (x1 : Int), (x2 : Int), ta, tb, tt, (x3 : Int), chunksAt s P j⟩ := ⟨_, rfl⟩
          have hmine : Mine wr (gc + 1) cc.c [.int .i64 (x0 : Int), .int .i64 (x1 : Int), .int .i64 (x2 : Int), .string (bs ta), .string (bs tb), .string (bs tt), .int .i64 (x3 : Int), .slice Aj j kj] := by
            have h0 := HO.out
            rw [hcc]
            have h1 := cmd_mine (w := wr) (base := gc + 1) (c := ⟨(x0 : Int), (x1 : Int), (x2 : Int), ta, tb, tt, (x3 : Int), chunksAt s P j⟩) (A := Aj) (k := kj) (by simp only [hchl]; exact h0)
            simp only [hchl] at h1
            exact h1
          have HREP := Lib.hid hmine
          have hpc := HPC.out
          rw [← hcc] at hpc
          have HW2 := HWT.out
          have hR4 := HF4.out
          have hR5 := HF5.out
          rw [hpc] at HW2 hR4 hR5
          have HSH := Lib.hid (fun W h => sShowCmd_any cc [.int .i64 (x0 : Int), .int .i64 (x1 : Int), .int .i64 (x2 : Int), .string (bs ta), .string (bs tb), .string (bs tt), .int .i64 (x3 : Int), .slice Aj j kj] W HW2 h)
          obtain ⟨sh, hsh⟩ : ∃ sh, sh = showCmdL cc := ⟨_, rfl⟩
          rw [← hsh] at HSH hR4 hR5
          have HR4 := Lib.hid hR4
          have HR5 := Lib.hid hR5
          have hsn : s ≠ [] := by
            intro e
            subst e
            have := HSN.out
            simp at this
          clear hR4 hR5 hsh HW2 hmine hcc hpc HPC HWT HF4 HF5 hnl hsl hsl2
          go_wp2_with (first | ((with_reducible show wpList _ _ _ ({ dst := _, op := Op.load 38 _, type := _, pos := _, after := _, guard := _ } :: _) _ _); refine wpList_load_row _ ⟨gc, 0, none⟩ rfl [.int .i64 (x0 : Int), .int .i64 (x1 : Int), .int .i64 (x2 : Int), .string (bs ta), .string (bs tb), .string (bs tt), .int .i64 (x3 : Int), .slice Aj j kj] agg_Cmd rfl (blk_cells CB.out) ?_) | fail)
          refine (HSH.out _ HREP.out.rep.any).mono ?_; rintro e v9 ⟨rfl, hb⟩
          have X := Lib.hid (ZB.out.below hb); clear ZB
          have ZB := Lib.hid X.out; clear X
          have X := Lib.hid (CB.out.below hb); clear CB
          have CB := Lib.hid X.out; clear X
          have X := Lib.hid (HREP.out.below hb); clear HREP
          have HREP := Lib.hid X.out; clear X
          have X := Lib.hid (show Below w.heap.size w v9 from BW.out.trans (hb.mono BW.out.size)); clear BW hb
          have BW := Lib.hid X.out; clear X
          by_cases hq : sh = s
          · have hRz := HR5.out hsn hq
            subst hRz
            have hb1 : (sh == s) = true := by simp [hq]
            clear hq hsn
            go_wp2_with (first | ((with_reducible show wpList _ _ _ ({ dst := _, op := Op.load 38 _, type := _, pos := _, after := _, guard := _ } :: _) _ _); refine wpList_load_row _ ⟨gc, 0, none⟩ rfl [.int .i64 (x0 : Int), .int .i64 (x1 : Int), .int .i64 (x2 : Int), .string (bs ta), .string (bs tb), .string (bs tt), .int .i64 (x3 : Int), .slice Aj j kj] agg_Cmd rfl (blk_cells CB.out) ?_) | ((with_reducible show wpList _ _ _ ({ dst := _, op := Op.store 38 _ _, type := _, pos := _, after := _, guard := _ } :: _) _ _); refine wpList_store_row _ w.heap.size 38 0 [.int .i64 (x0 : Int), .int .i64 (x1 : Int), .int .i64 (x2 : Int), .string (bs ta), .string (bs tb), .string (bs tt), .int .i64 (x3 : Int), .slice Aj j kj] [] [.int .i64 0, .int .i64 0, .int .i64 0, .string (bs []), .string (bs []), .string (bs []), .int .i64 0, .slice none 0 0] [] _ rfl rfl agg_Cmd ZB.out rfl rfl rfl (by simp [Value.oneCell']) ?_; intro v10 hzb hzg) | fail)
            exact bodyPost_cell2 rfl ⟨w.heap.size, 0, none⟩ rfl [.int .i64 (x0 : Int), .int .i64 (x1 : Int), .int .i64 (x2 : Int), .string (bs ta), .string (bs tb), .string (bs tt), .int .i64 (x3 : Int), .slice Aj j kj] _ rfl agg_Cmd rfl (blk_cells hzb) rfl ⟨_, rfl, HREP.out.grownAt hzg (fun e => by have := HGC.out; omega) (by have := HGC.out; omega), Below.grown BW.out hzg BW.out.size (fun k hk => by injection hk with hk; omega)⟩
          · have hRz := HR4.out hq
            subst hRz
            have hb1 : (sh == s) = false := by simpa using hq
            clear hq hsn
            go_wp2_with (first | ((with_reducible show wpList _ _ _ ({ dst := _, op := Op.store 38 _ _, type := _, pos := _, after := _, guard := _ } :: _) _ _); refine wpList_store_row _ w.heap.size 38 0 [.int .i64 0, .int .i64 0, .int .i64 0, .string (bs []), .string (bs []), .string (bs []), .int .i64 0, .slice none 0 0] [] [.int .i64 0, .int .i64 0, .int .i64 0, .string (bs []), .string (bs []), .string (bs []), .int .i64 0, .slice none 0 0] [] _ rfl rfl agg_Cmd ZB.out rfl rfl rfl (by simp [Value.oneCell']) ?_; intro v9 hzb hzg) | fail)
            exact bodyPost_cell2 rfl ⟨w.heap.size, 0, none⟩ rfl [.int .i64 0, .int .i64 0, .int .i64 0, .string (bs []), .string (bs []), .string (bs []), .int .i64 0, .slice none 0 0] _ rfl agg_Cmd rfl (blk_cells hzb) rfl ⟨_, rfl, zeroCmd_mine _ _, Below.grown BW.out hzg BW.out.size (fun k hk => by injection hk with hk; omega)⟩

end Go.Proofs.Ytinacpjelephoaa
