/-
  Commands that the reference draws: they are there, and not great. Conditions: a code of at most 2^20 bytes.
-/
import Derived.Test.YtinacpjelephoaaDrawV
import Derived.Test.YtinacpjelephoaaRegL
import Derived.Test.YtinacpjelephoaaSha5
import Derived.Test.YtinacpjelephoaaReadCS
namespace Go.Proofs.Ytinacpjelephoaa
open Go.RowKit

theorem reads_new_strs (v : World) (cs : Array Value) (e : Nat) (L : List (List UInt8)) (hc : cs.toList = L.map strv) : Reads (v.alloc (.cells cs e)) 1 (some ⟨v.heap.size, 0, none⟩) L.length (L.map strv) := by
  rw [← hc]
  refine Reads.new ?_
  have := congrArg List.length hc
  simpa using this
theorem reads_new_strs2 (v : World) (cs : Array Value) (e g : Nat) (L : List (List UInt8)) (hc : cs.toList = L.map strv) (hg : g = v.heap.size) : Reads (v.alloc (.cells cs e)) 1 (some ⟨g, 0, none⟩) L.length (L.map strv) := by
  subst hg
  exact reads_new_strs v cs e L hc
theorem reads_new_ints2 (v : World) (cs : Array Value) (e g : Nat) (L : List Int) (hc : cs.toList = L.map (Value.int .i64)) (hg : g = v.heap.size) : Reads (v.alloc (.cells cs e)) 1 (some ⟨g, 0, none⟩) L.length (L.map (Value.int .i64)) := by
  subst hg
  exact reads_new_ints v cs e L hc
set_option maxRecDepth 100000 in
set_option maxHeartbeats 1000000 in
theorem l1Pick_x (B g : Nat) (xs : List UInt8) (s : DSt) (L : List (List UInt8)) (g2 n c : Nat) (w : World) (hc : Cur B g xs s w) (hn : n = L.length) (h0 : 1 ≤ n) (h1 : n ≤ 256) (hg2 : g2 ≠ g) (hr : Reads w 1 (some ⟨g2, 0, none⟩) n (L.map strv)) :
    Calls Try.prog 55 #[.pointer (some ⟨g, 0, none⟩), .slice (some ⟨g2, 0, none⟩) n c] w fun e w' => ∃ l s', l ∈ L ∧ e = .returned (.string (bs l)) ∧ Cur B g xs s' w' ∧ w.grownBy w' (some g) := by
  have H1 := Lib.hid (fun w hc => l1Below_x B g n xs s w hc (by omega) (by omega))
  have hlt := belowF_lt xs n s (by omega)
  generalize belowF xs n s = R at *
  obtain ⟨rv, rs⟩ := R
  simp only [] at hlt
  have HR := Lib.hid hr; clear hr
  have HN := Lib.hid hn; clear hn
  go_enter Try.func55, Try.ntmps55
  go_wp2_with fail
  refine (H1.out _ hc).mono ?_
  rintro e w2 ⟨rfl, hc2, hg⟩
  have hrv : rv < L.length := by have := HN.out; omega
  have hcell : w2.cell? ⟨g2, rv, none⟩ = some (.string (bs L[rv])) := by
    obtain ⟨ad, e, hcs⟩ := HR.out.2 (by omega)
    injection e with e
    subst e
    have h2 := hcs rv (strv L[rv]) (by rw [List.getElem?_map, List.getElem?_eq_getElem hrv]; rfl)
    rw [add_plain, Nat.zero_add] at h2
    have hb := World.block_lt_of_cell? _ _ h2
    rw [World.cell?_of_block (hg.block _ hb (fun e => hg2 (by injection e)))]
    exact h2
  have HM := Lib.hid (List.getElem_mem hrv)
  have HC := Lib.hid hc2; clear hc2
  have HG := Lib.hid hg; clear hg
  generalize L[rv] = val at *
  go_wp2
  go_ret
  exact ⟨val, rs, HM.out, ret_eq rfl, HC.out, HG.out⟩

theorem grown_setNew {w V : World} {g gx f : Nat} {v : Value} (h : w.grownBy V (some g)) (hx : w.heap.size ≤ gx) : w.grownBy (V.setCell ⟨gx, f, none⟩ v) (some g) :=
  grownBy_trans_new h (grown_set V gx f v) (fun k hk => .inr (by injection hk with hk; omega))
theorem grown_New {w V V' : World} {g gx : Nat} (h : w.grownBy V (some g)) (k : V.grownBy V' (some gx)) (hx : w.heap.size ≤ gx) : w.grownBy V' (some g) :=
  grownBy_trans_new h k (fun k hk => .inr (by injection hk with hk; omega))
theorem short_len (l : List UInt8) : (shortL l).length ≤ 8 := by unfold shortL; simp; omega
/-- a command that is drawn is not great -/
def SmallC (q : Nat) (d : CmdD) : Prop := d.set.length ≤ 10 ∧ d.name.length ≤ 10 ∧ d.tag.length ≤ 10 ∧ d.chunks.length ≤ q ∧ d.chunks.flatten.length ≤ 10 * q
theorem small_c {q : Nat} {kd cl no nn : Int} {st nm tg : List UInt8} {ch : List (List UInt8)} (h1 : st.length ≤ 10) (h2 : nm.length ≤ 10) (h3 : tg.length ≤ 10) (h4 : ch.length ≤ q) (h5 : ch.flatten.length ≤ 10 * q) : SmallC q ⟨kd, cl, no, st, nm, tg, nn, ch⟩ := ⟨h1, h2, h3, h4, h5⟩
theorem SmallC.wt {d : CmdD} (h : SmallC 5 d) : d.c.wt ≤ 200 := by
  obtain ⟨h1, h2, h3, h4, h5⟩ := h
  rw [wt_cmd]
  omega
theorem load_slice {P : Program} {t e : TypeId} {ad : Addr} (hu : P.underlying t = some (.slice e)) (w : World) : (Instr.loadAt t (.pointer (some ad))).run P w = (Sem.load .plain ad Sem.pure : Sem Value).run P w := by
  have h : (isAgg t).run P w = .ok false w := by
    unfold Go.isAgg
    simp [Sem.run_bind, run_underlying hu, Result.andThen]
  unfold Instr.loadAt Instr.sureAddr loadVar
  simp only [Sem.run_bind, Sem.run_pure, Result.andThen, h]
  rfl
theorem l1Below_e (B g n : Nat) (xs : List UInt8) (s : DSt) (w : World) (hc : Cur B g xs s w) (h1 : 1 ≤ n) (h2 : n ≤ 1000000000) :
    Calls Try.prog 51 #[.pointer (some ⟨g, 0, none⟩), .int .i64 (n : Int)] w fun e w' => ∃ k s', k < n ∧ e = .returned (.int .i64 (k : Int)) ∧ Cur B g xs s' w' ∧ w.grownBy w' (some g) :=
  (l1Below_x B g n xs s w hc h1 h2).mono (fun _ _ h => ⟨_, _, belowF_lt xs n s h1, h.1, h.2.1, h.2.2⟩)
theorem l1Once_e (B g n : Nat) (xs : List UInt8) (s : DSt) (w : World) (hc : Cur B g xs s w) (h1 : 1 ≤ n) (h2 : n ≤ 1000000000) :
    Calls Try.prog 35 #[.pointer (some ⟨g, 0, none⟩), .int .i64 (n : Int)] w fun e w' => ∃ b s', e = .returned (.bool b) ∧ Cur B g xs s' w' ∧ w.grownBy w' (some g) :=
  (l1Once_x B g n xs s w hc h1 h2).mono (fun _ _ h => ⟨_, _, h.1, h.2.1, h.2.2⟩)
theorem l1Text_e (B g most : Nat) (xs : List UInt8) (s : DSt) (w : World) (hc : Cur B g xs s w) (hm : most ≤ 1000) :
    Calls Try.prog 31 #[.pointer (some ⟨g, 0, none⟩), .int .i64 (most : Int)] w fun e w' => ∃ l s', l.length ≤ most ∧ e = .returned (.string (bs l)) ∧ Cur B g xs s' w' ∧ w.grownBy w' (some g) :=
  (l1Text_x B g most xs s w hc hm).mono (fun _ _ h => ⟨_, _, textF_len xs most s, h.1, h.2.1, h.2.2⟩)
theorem l1PickInt_e (B g : Nat) (xs : List UInt8) (s : DSt) (L : List Int) (g2 n c : Nat) (w : World) (hc : Cur B g xs s w) (hn : n = L.length) (h0 : 1 ≤ n) (h1 : n ≤ 256) (hg2 : g2 ≠ g) (hr : Reads w 1 (some ⟨g2, 0, none⟩) n (L.map (Value.int .i64))) :
    Calls Try.prog 52 #[.pointer (some ⟨g, 0, none⟩), .slice (some ⟨g2, 0, none⟩) n c] w fun e w' => ∃ v s', e = .returned (.int .i64 v) ∧ Cur B g xs s' w' ∧ w.grownBy w' (some g) :=
  (l1PickInt_x B g xs s L g2 n c w hc hn h0 h1 hg2 hr).mono (fun _ _ h => ⟨_, _, h.1, h.2.1, h.2.2⟩)
structure CmdPost (q B g : Nat) (xs : List UInt8) (w : World) (e : Ending) (w' : World) : Prop where
  out : ∃ (d : CmdD) (cs : List Value) (s' : DSt), e = .returned (.agg cs.toArray) ∧ SmallC q d ∧ Mine w' w.heap.size d.c cs ∧ Cur B g xs s' w' ∧ w.grownBy w' (some g)
/-- where the drawing of a command stands: the zero command, the command that is drawn, the cursor -/
structure RSt (B g : Nat) (xs : List UInt8) (w0 : World) (gx : Nat) (L : List Value) (s : DSt) (w : World) : Prop where
  zb : Blk w w0.heap.size 38 [.int .i64 0, .int .i64 0, .int .i64 0, .string (bs []), .string (bs []), .string (bs []), .int .i64 0, .slice none 0 0].toArray
  cb : Blk w gx 38 L.toArray
  gr : w0.grownBy w (some g)
  gb : gx + 1 ≤ w.heap.size
  cu : Cur B g xs s w
  g1 : w0.heap.size + 1 ≤ gx
  gl : g < w0.heap.size
section
variable {B g gx : Nat} {xs : List UInt8} {w0 w w' : World} {L : List Value} {s s' : DSt}
theorem RSt.call (h : RSt B g xs w0 gx L s w) (hc : Cur B g xs s' w') (hg : w.grownBy w' (some g)) : RSt B g xs w0 gx L s' w' :=
  ⟨h.zb.grown hg (by have := h.gl; omega), h.cb.grown hg (by have := h.gl; have := h.g1; omega), grown_trans h.gr hg, Nat.le_trans h.gb hg.size, hc, h.g1, h.gl⟩
theorem RSt.set (h : RSt B g xs w0 gx L s w) (f : Nat) (v : Value) : RSt B g xs w0 gx (L.set f v) s (w.setCell ⟨gx, f, none⟩ v) :=
  ⟨Blk.setOther h.zb (a := ⟨gx, f, none⟩) (by have := h.g1; show gx ≠ _; omega) v, blk_put0 h.cb f v, grown_setNew h.gr (by have := h.g1; omega), by rw [setCell_size]; exact h.gb, h.cu.keep (grown_set w gx f v) (fun k hk => by injection hk with hk; have := h.g1; have := h.gl; omega), h.g1, h.gl⟩
theorem RSt.own {r : Option Nat} (h : RSt B g xs w0 gx L s w) (hg : w.grownBy w' r) (hr : ∀ k, r = some k → k ≠ gx ∧ w0.heap.size + 1 ≤ k) : RSt B g xs w0 gx L s w' :=
  ⟨h.zb.keep (hg.block _ h.zb.lt (fun e => by have := (hr _ e.symm).2; omega)), h.cb.keep (hg.block _ h.cb.lt (fun e => (hr _ e.symm).1 rfl)), grownBy_trans_new h.gr hg (fun k hk => .inr (by have := (hr _ hk).2; omega)), Nat.le_trans h.gb hg.size, h.cu.keep hg (fun k hk => by have := (hr _ hk).2; have := h.gl; omega), h.g1, h.gl⟩
theorem RSt.fresh {r : Option Nat} (h : RSt B g xs w0 gx L s w) (hg : w.grownBy w' r) (hr : ∀ k, r = some k → gx < k) : RSt B g xs w0 gx L s w' :=
  h.own hg (fun k hk => by have := hr k hk; have := h.g1; omega)
theorem RSt.alloc (h : RSt B g xs w0 gx L s w) (o : Obj) : RSt B g xs w0 gx L s (w.alloc o) := h.fresh (grown_alloc w o) (fun k hk => by cases hk)
theorem RSt.drew (h : RSt B g xs w0 gx L s w) : RSt B g xs w0 gx L s w.drew := h.fresh (r := none) ⟨rfl, rfl, rfl, Nat.le_refl _, fun _ _ _ => rfl⟩ (fun k hk => by cases hk)
theorem RSt.below (h : RSt B g xs w0 gx L s w) (hb : Below w.heap.size w w') : RSt B g xs w0 gx L s w' := h.fresh (r := none) ⟨hb.os, hb.tape, hb.output, hb.size, fun k hk _ => hb.block k hk⟩ (fun k hk => by cases hk)
end
set_option maxRecDepth 100000 in
set_option maxHeartbeats 8000000 in
theorem l4Right_x (B g : Nat) (xs : List UInt8) (s : DSt) (w : World) (hc : Cur B g xs s w) :
    Calls Try.prog 54 #[.pointer (some ⟨g, 0, none⟩)] w (CmdPost 4 B g xs w) := by
  have hgl := hc.lt
  have H1 := Lib.hid (fun w hc => l1Below_x B g 7 xs s w hc (by omega) (by omega))
  have hk7 := belowF_lt xs 7 s (by omega)
  generalize belowF xs 7 s = R1 at *
  obtain ⟨b1, s1⟩ := R1
  have H2 := Lib.hid (fun w hc => l1Below_x B g 3 xs s1 w hc (by omega) (by omega))
  have hk3 := belowF_lt xs 3 s1 (by omega)
  simp only [] at H1 hk7
  generalize belowF xs 3 s1 = R2 at *
  obtain ⟨b2, s2⟩ := R2
  have H3 := Lib.hid (fun w hc => l1Below_x B g 6 xs s2 w hc (by omega) (by omega))
  have hk6 := belowF_lt xs 6 s2 (by omega)
  simp only [] at H2 hk3
  generalize belowF xs 6 s2 = R3 at *
  obtain ⟨b3, s3⟩ := R3
  have H4 := Lib.hid (fun w hc => l1Once_x B g 4 xs s3 w hc (by omega) (by omega))
  simp only [] at H3 hk6
  generalize onceF xs 4 s3 = R4 at *
  obtain ⟨oc, s4⟩ := R4
  simp only [] at H4
  go_enter Try.func54, Try.ntmps54
  go_wp2_with fail
  refine (H1.out _ (hc.keep (grown_alloc w _) (fun k hk => by cases hk))).mono ?_
  rintro e w1 ⟨rfl, hc1, hg1⟩
  have ZB := Lib.hid (show Blk w1 w.heap.size 38 [.int .i64 0, .int .i64 0, .int .i64 0, .string (bs []), .string (bs []), .string (bs []), .int .i64 0, .slice none 0 0].toArray from (blk_new w _ _).grown hg1 (by omega))
  have GR := Lib.hid (show w.grownBy w1 (some g) from grown_trans (grown_weak (grown_alloc w _)) hg1)
  have HZ := Lib.hid (show w.heap.size + 1 ≤ w1.heap.size from Nat.le_trans (by simp) hg1.size)
  have HC := Lib.hid hc1; clear hc1 hg1 hc
  go_wp2_with fail
  refine (H2.out _ HC.out).mono ?_
  rintro e w2 ⟨rfl, hc1, hg1⟩
  have X := Lib.hid (ZB.out.grown hg1 (by omega)); clear ZB
  have ZB := Lib.hid X.out; clear X
  have X := Lib.hid (grown_trans GR.out hg1); clear GR
  have GR := Lib.hid X.out; clear X
  have X := Lib.hid (Nat.le_trans HZ.out hg1.size); clear HZ
  have HZ := Lib.hid X.out; clear X
  clear HC
  have HC := Lib.hid hc1; clear hc1 hg1
  go_wp2_with fail
  refine (H3.out _ HC.out).mono ?_
  rintro e w3 ⟨rfl, hc1, hg1⟩
  have X := Lib.hid (ZB.out.grown hg1 (by omega)); clear ZB
  have ZB := Lib.hid X.out; clear X
  have X := Lib.hid (grown_trans GR.out hg1); clear GR
  have GR := Lib.hid X.out; clear X
  have X := Lib.hid (Nat.le_trans HZ.out hg1.size); clear HZ
  have HZ := Lib.hid X.out; clear X
  clear HC
  have HC := Lib.hid hc1; clear hc1 hg1
  obtain ⟨gx, hgx⟩ : ∃ x, x = w3.heap.size := ⟨_, rfl⟩
  have HGX := Lib.hid (show w.heap.size + 1 ≤ gx by rw [hgx]; exact HZ.out)
  have HGE := Lib.hid hgx; clear hgx
  go_wp2_with (first | ((with_reducible show wpList _ _ _ ({ dst := _, op := Op.store 38 _ _, type := _, pos := _, after := _, guard := _ } :: _) _ _); go_must (refine wpList_store_row _ w3.heap.size 38 0 [.int .i64 (1 + (b1 : Int)), .int .i64 (1 + (b2 : Int)), .int .i64 (1 + (b3 : Int)), .string (bs []), .string (bs []), .string (bs []), .int .i64 0, .slice none 0 0] [] [.int .i64 0, .int .i64 0, .int .i64 0, .string (bs []), .string (bs []), .string (bs []), .int .i64 0, .slice none 0 0] [] _ rfl rfl agg_Cmd (blk_new w3 _ _) rfl rfl rfl (by simp [Value.oneCell']) ?_; intro w4 hsb hg; rw [← HGE.out] at hsb hg ⊢; have CB := Lib.hid (show Blk w4 gx 38 [.int .i64 (1 + (b1 : Int)), .int .i64 (1 + (b2 : Int)), .int .i64 (1 + (b3 : Int)), .string (bs []), .string (bs []), .string (bs []), .int .i64 0, .slice none 0 0].toArray by simpa using hsb); clear hsb; have X := Lib.hid ((ZB.out.alloc _).grown hg (by have := HGX.out; omega)); clear ZB; have ZB := Lib.hid X.out; clear X; have X := Lib.hid ((HC.out.keep (grown_alloc w3 _) (fun k hk => by cases hk)).keep hg (fun k hk => by injection hk with hk; have := HGX.out; omega)); clear HC; have HC := Lib.hid X.out; clear X; have X := Lib.hid (grown_New (grown_trans GR.out (grown_weak (grown_alloc w3 _))) hg (by have := HGX.out; omega)); clear GR; have GR := Lib.hid X.out; clear X; have HGB := Lib.hid (show gx + 1 ≤ w4.heap.size from Nat.le_trans (by rw [HGE.out]; simp) hg.size); clear hg)) | fail)
  obtain ⟨kd, hkd⟩ : ∃ kd : Int, kd = 1 + (b1 : Int) := ⟨_, rfl⟩
  obtain ⟨cl, hcl⟩ : ∃ kd : Int, kd = 1 + (b2 : Int) := ⟨_, rfl⟩
  obtain ⟨no, hno⟩ : ∃ kd : Int, kd = 1 + (b3 : Int) := ⟨_, rfl⟩
  rw [← hkd, ← hcl, ← hno] at CB
  clear hkd hcl hno hk7 hk3 hk6
  clear H1 H2 H3 HZ HGE
  refine (H4.out _ HC.out).mono ?_
  rintro e w5 ⟨rfl, hc1, hg1⟩
  have X := Lib.hid (ZB.out.grown hg1 (by omega)); clear ZB
  have ZB := Lib.hid X.out; clear X
  have X := Lib.hid (grown_trans GR.out hg1); clear GR
  have GR := Lib.hid X.out; clear X
  have X := Lib.hid (CB.out.grown hg1 (by have := HGX.out; omega)); clear CB
  have CB := Lib.hid X.out; clear X
  have X := Lib.hid (Nat.le_trans HGB.out hg1.size); clear HGB
  have HGB := Lib.hid X.out; clear X
  clear HC
  have HC := Lib.hid hc1; clear hc1 hg1
  clear H4
  have R := Lib.hid (show RSt B g xs w gx [.int .i64 kd, .int .i64 cl, .int .i64 no, .string (bs []), .string (bs []), .string (bs []), .int .i64 0, .slice none 0 0] s4 w5 from ⟨ZB.out, CB.out, GR.out, HGB.out, HC.out, HGX.out, hgl⟩)
  clear ZB CB GR HGB HC HGX
  have HPa := Lib.hid (fun w s g2 c hc hg hr => l1Pick_x B g xs s [ [97], [98], [97, 98] ] g2 3 c w hc rfl (by omega) (by omega) hg hr)
  have HPx := Lib.hid (fun w s g2 c hc hg hr => l1Pick_x B g xs s [ [120], [121], [122] ] g2 3 c w hc rfl (by omega) (by omega) hg hr)
  have HPk := Lib.hid (fun w s g2 c hc hg hr => l1Pick_x B g xs s [ [107, 101, 101, 112], [116] ] g2 2 c w hc rfl (by omega) (by omega) hg hr)
  have HB3 := Lib.hid (fun w s hc => l1Below_e B g 3 xs s w hc (by omega) (by omega))
  have HB4 := Lib.hid (fun w s hc => l1Below_e B g 4 xs s w hc (by omega) (by omega))
  cases oc with
  | true =>
    have f0 := R.out.cb.frozen 0
    have c0 := blk_cell0 R.out.cb 0 rfl
    have X := Lib.hid (show RSt B g xs w gx [.int .i64 3, .int .i64 cl, .int .i64 no, .string (bs []), .string (bs []), .string (bs []), .int .i64 0, .slice none 0 0] s4 (w5.setCell ⟨gx, 0, none⟩ (.int .i64 3)) from R.out.set 0 (.int .i64 3)); clear R
    have R := Lib.hid X.out; clear X
    go_wp2_with fail
    refine (HPa.out _ _ _ _ (R.out.alloc _).cu (by have h1 := R.out.gb; have h2 := R.out.g1; have h3 := R.out.gl; (try rw [setCell_size] at h1); omega) (reads_new_strs2 _ _ _ _ [ [97], [98], [97, 98] ] rfl (by first | rfl | rw [setCell_size]))).mono ?_
    rintro e v5 ⟨st, t5, hm, rfl, hc1, hg1⟩
    have hst : st.length ≤ 10 := by
      clear HPa HPx HPk HB3 HB4 R
      simp only [List.mem_cons, List.not_mem_nil, or_false] at hm
      rcases hm with rfl | rfl | rfl <;> simp
    clear hm
    have X := Lib.hid ((R.out.alloc _).call hc1 hg1); clear R hc1 hg1
    try clear f0
    clear c0
    have f0 := X.out.cb.frozen 3
    have c0 := blk_cell0 X.out.cb 0 rfl
    have c1 := blk_cell0 X.out.cb 3 rfl
    have R := Lib.hid (show RSt B g xs w gx [.int .i64 3, .int .i64 cl, .int .i64 no, .string (bs st), .string (bs []), .string (bs []), .int .i64 0, .slice none 0 0] t5 (v5.setCell ⟨gx, 3, none⟩ (.string (bs st))) from X.out.set 3 (.string (bs st)))
    clear X
    go_wp2_with fail
    refine (HPx.out _ _ _ _ (R.out.alloc _).cu (by have h1 := R.out.gb; have h2 := R.out.g1; have h3 := R.out.gl; (try rw [setCell_size] at h1); omega) (reads_new_strs2 _ _ _ _ [ [120], [121], [122] ] rfl (by first | rfl | rw [setCell_size]))).mono ?_
    rintro e v6 ⟨nm, t6, hm, rfl, hc1, hg1⟩
    have hnm : nm.length ≤ 10 := by
      clear HPa HPx HPk HB3 HB4 R
      simp only [List.mem_cons, List.not_mem_nil, or_false] at hm
      rcases hm with rfl | rfl | rfl <;> simp
    clear hm
    have X := Lib.hid ((R.out.alloc _).call hc1 hg1); clear R hc1 hg1
    clear f0 c0 c1
    have f0 := X.out.cb.frozen 4
    have c0 := blk_cell0 X.out.cb 0 rfl
    have c1 := blk_cell0 X.out.cb 4 rfl
    have R := Lib.hid (show RSt B g xs w gx [.int .i64 3, .int .i64 cl, .int .i64 no, .string (bs st), .string (bs nm), .string (bs []), .int .i64 0, .slice none 0 0] t6 (v6.setCell ⟨gx, 4, none⟩ (.string (bs nm))) from X.out.set 4 (.string (bs nm)))
    clear X
    go_wp2_with fail
    refine (HB3.out _ _ R.out.cu).mono ?_
    rintro e v7 ⟨n, t7, hn, rfl, hc1, hg1⟩
    have X := Lib.hid (R.out.call hc1 hg1); clear R hc1 hg1 f0 c0 c1
    have R := Lib.hid X.out; clear X
    go_wp2_with fail
    go_loopw [4] (fun ii wr => ∃ (j m : Nat) (sj : DSt) (A : Option Addr) (k : Nat) (ch : List (List UInt8)), ch.length = m ∧ m + j ≤ 3 ∧ ch.flatten.length ≤ 8 * m ∧ ii = .int .i64 (j : Int) ∧ RSt B g xs w gx [.int .i64 3, .int .i64 cl, .int .i64 no, .string (bs st), .string (bs nm), .string (bs []), .int .i64 0, .slice A m k] sj wr ∧ wr.ownsRow (gx + 1) 9 1 (.slice A m k) m (ch.map strv)) (fun ii _ => (intOf ii).toNat)
    case atStart => exact ⟨n + 1, 0, t7, none, 0, [], rfl, by omega, by simp, by go_num, R.out, ⟨by simp, .inl ⟨rfl, rfl⟩⟩⟩
    case round =>
      obtain ⟨j, m, sj, A, k, ch, hm, hjc, hfl, rfl, hR, hown⟩ := hrel
      clear R
      have R := Lib.hid hR; clear hR
      have HO := Lib.hid hown; clear hown
      by_cases hj0 : 0 < j
      · have hd1 : (0 : Int) < (j : Int) := by omega
        have hcx : wr.cell? ⟨gx, 7, none⟩ = some (.slice A m k) := blk_cell0 R.out.cb 7 rfl
        go_wp2
        refine wp_region_l (fun v => v.cell? ⟨gx, 7, none⟩ = some (.slice A m k)) 9 [0, 1, 2] [3, 4, 5, 6, 7, 8] [9, 10, 11] (by kernel_rfl) (by kernel_rfl) hcx ?_
        refine wpCr_bare rfl (by kernel_rfl) rfl rfl ?_; go_wp2; refine ⟨rfl, ?_⟩
        refine wpCr_step rfl (.slice A m k) (fun w' hw' => run_load1 rfl rfl (fun v => load_slice (e := 9) (by kernel_rfl) v) hw') ?_
        refine wpCr_bare rfl (by kernel_rfl) rfl rfl ?_; go_wp2; refine ⟨rfl, ?_⟩
        refine wpCr_nil ?_
        refine wpCz_step rfl ?_
        go_wp2_with fail
        refine (HB4.out _ _ R.out.drew.cu).mono ?_
        rintro e v9 ⟨b, t9, hb, rfl, hc1, hg1⟩
        have HO2 := Lib.hid (ownsRow_keep (base' := gx + 1) HO.out (w' := v9) (fun k hk => ⟨(HO.out.lt k hk).1, hg1.block k (HO.out.lt k hk).2 (fun e => by have h1 := (HO.out.lt k hk).1; have h2 := R.out.g1; have h3 := R.out.gl; injection e with e; omega)⟩))
        have X := Lib.hid (R.out.drew.call hc1 hg1); clear R hc1 hg1 HO hcx
        go_wp2_with fail
        refine ⟨blk_cell0 X.out.cb 7 rfl, ?_⟩
        refine wpCz_step rfl ?_
        go_wp2_with fail
        refine ⟨blk_cell0 X.out.cb 7 rfl, ?_⟩
        refine wpCz_step rfl ?_
        go_wp2_with fail
        have R := Lib.hid (X.out.alloc (.cells #[.int .u8 (b : Int)] 5))
        have HO3 := Lib.hid (HO2.out.alloc (.cells #[.int .u8 (b : Int)] 5))
        have HBO := Lib.hid (own_built v9 w.heap.size b #[.int .u8 (b : Int)] X.out.gr.size rfl (by omega)); clear X HO2
        refine ⟨blk_cell0 R.out.cb 7 rfl, ?_⟩
        refine wpCz_step rfl ?_
        go_wp2_with (first
          | (refine wpList_bytes_own _ rfl 22 9 _ rfl 5 E_u8.ht Try.underlying5 Try.underlying9 w.heap.size _ _ [UInt8.ofNat b] rfl (by exact HBO.out) ?_)
          | fail)
        clear HBO
        refine ⟨blk_cell0 R.out.cb 7 rfl, ?_⟩
        refine wpCz_step rfl ?_
        go_wp2_with fail
        refine (sShort_any [UInt8.ofNat b] _ (by simp)).mono ?_
        rintro e v10 ⟨rfl, hb10⟩
        have hshl := short_len [UInt8.ofNat b]
        obtain ⟨sh, hsh⟩ : ∃ sh, sh = shortL [UInt8.ofNat b] := ⟨_, rfl⟩
        rw [← hsh] at hshl ⊢
        clear hsh
        have X := Lib.hid (R.out.below hb10); clear R
        have HO2 := Lib.hid (HO3.out.keptBelow hb10); clear HO3 hb10
        go_wp2_with fail
        refine ⟨blk_cell0 X.out.cb 7 rfl, ?_⟩
        refine wpCz_step rfl ?_
        go_wp2_with fail
        have R := Lib.hid (X.out.alloc (.cells #[.string (bs sh)] 9))
        have HO3 := Lib.hid (HO2.out.alloc (.cells #[.string (bs sh)] 9)); clear X HO2
        refine ⟨blk_cell0 R.out.cb 7 rfl, ?_⟩
        refine wpCz_nil ?_
        simp only [pickOps, List.getElem?_toArray, List.getElem?_cons_succ, List.getElem?_cons_zero]
        go_wp2_with (first | (at_builtin; go_must (refine wpList_app E_str _ rfl _ _ rfl (gx + 1) _ m _ rfl HO3.out _ _ _ _ rfl (Reads.new rfl) (one1 rfl) (by omega) R.out.gb ?_; intro vv w3 hown3 hg3 hat3; obtain ⟨Av, kv, rfl, _⟩ := SlR.of_own hown3; have hgb3 : ∀ k', (Value.slice A m k).ownBlock = some k' → gx < k' := (fun k' hk => by have := (HO3.out.lt k' hk).1; omega); have R3 := Lib.hid (R.out.fresh hg3 hgb3); have hq3 := blk_cell0 R3.out.cb 7 rfl; have hfz3 := R3.out.cb.frozen 7; have HO4 := Lib.hid hown3; clear hown3 hg3 hgb3 hat3)) | fail)
        refine ⟨trivial, ?_⟩
        go_wp2_with fail
        exact ⟨⟨j - 1, m + 1, t9, Av, kv, ch ++ [sh], by simp [hm], by omega, by rw [List.flatten_append, List.length_append]; simp only [List.flatten_cons, List.flatten_nil, List.append_nil]; omega, by go_num, R3.out.set 7 _, by rw [List.map_append]; exact ownsRow_keep HO4.out (fun k' hk => ⟨(HO4.out.lt k' hk).1, Below.heap_setCell _ _ _ _ (fun e => by have h1 := (HO4.out.lt k' hk).1; have e2 : k' = gx := e; omega)⟩)⟩, by simp only [intOf]; omega⟩
      · have hj00 : j = 0 := by omega
        subst hj00 hm
        have hd1 : ¬ (0 : Int) < ((0 : Nat) : Int) := by omega
        go_wp2_with (first | ((with_reducible show wpList _ _ _ ({ dst := _, op := Op.load 38 _, type := _, pos := _, after := _, guard := _ } :: _) _ _); refine wpList_load_row _ ⟨gx, 0, none⟩ rfl [.int .i64 3, .int .i64 cl, .int .i64 no, .string (bs st), .string (bs nm), .string (bs []), .int .i64 0, .slice A ch.length k] agg_Cmd rfl (blk_cells R.out.cb) ?_) | ((with_reducible show wpList _ _ _ ({ dst := _, op := Op.store 38 _ _, type := _, pos := _, after := _, guard := _ } :: _) _ _); go_must (refine wpList_store_row _ w.heap.size 38 0 [.int .i64 3, .int .i64 cl, .int .i64 no, .string (bs st), .string (bs nm), .string (bs []), .int .i64 0, .slice A ch.length k] [] [.int .i64 0, .int .i64 0, .int .i64 0, .string (bs []), .string (bs []), .string (bs []), .int .i64 0, .slice none 0 0] [] _ rfl rfl agg_Cmd R.out.zb rfl rfl rfl (by simp [Value.oneCell']) ?_; intro v10 hzb hzg)) | fail)
        skip
        exact bodyPost_cell rfl ⟨w.heap.size, 0, none⟩ rfl [.int .i64 3, .int .i64 cl, .int .i64 no, .string (bs st), .string (bs nm), .string (bs []), .int .i64 0, .slice A ch.length k] agg_Cmd rfl (blk_cells hzb) rfl ⟨⟨⟨3, cl, no, st, nm, [], 0, ch⟩, _, _, rfl, small_c (by assumption) (by assumption) (by simp) (by omega) (by omega), cmd_mine (c := ⟨3, cl, no, st, nm, [], 0, ch⟩) (ownsRow_keep (base' := w.heap.size) HO.out (fun k' hk => ⟨by have h1 := (HO.out.lt k' hk).1; have h2 := R.out.g1; omega, hzg.block k' (HO.out.lt k' hk).2 (fun e => by have h1 := (HO.out.lt k' hk).1; have h2 := R.out.g1; injection e with e; omega)⟩)), R.out.cu.keep hzg (fun k hk => by injection hk with hk; omega), grown_New R.out.gr hzg (Nat.le_refl _)⟩⟩
  | false =>
    by_cases hk3 : kd = 3
    · subst hk3
      have c0 := blk_cell0 R.out.cb 0 rfl
      go_wp2_with fail
      refine (HPa.out _ _ _ _ (R.out.alloc _).cu (by have h1 := R.out.gb; have h2 := R.out.g1; have h3 := R.out.gl; (try rw [setCell_size] at h1); omega) (reads_new_strs2 _ _ _ _ [ [97], [98], [97, 98] ] rfl (by first | rfl | rw [setCell_size]))).mono ?_
      rintro e v5 ⟨st, t5, hm, rfl, hc1, hg1⟩
      have hst : st.length ≤ 10 := by
        clear HPa HPx HPk HB3 HB4 R
        simp only [List.mem_cons, List.not_mem_nil, or_false] at hm
        rcases hm with rfl | rfl | rfl <;> simp
      clear hm
      have X := Lib.hid ((R.out.alloc _).call hc1 hg1); clear R hc1 hg1
      try clear f0
      clear c0
      have f0 := X.out.cb.frozen 3
      have c0 := blk_cell0 X.out.cb 0 rfl
      have c1 := blk_cell0 X.out.cb 3 rfl
      have R := Lib.hid (show RSt B g xs w gx [.int .i64 3, .int .i64 cl, .int .i64 no, .string (bs st), .string (bs []), .string (bs []), .int .i64 0, .slice none 0 0] t5 (v5.setCell ⟨gx, 3, none⟩ (.string (bs st))) from X.out.set 3 (.string (bs st)))
      clear X
      go_wp2_with fail
      refine (HPx.out _ _ _ _ (R.out.alloc _).cu (by have h1 := R.out.gb; have h2 := R.out.g1; have h3 := R.out.gl; (try rw [setCell_size] at h1); omega) (reads_new_strs2 _ _ _ _ [ [120], [121], [122] ] rfl (by first | rfl | rw [setCell_size]))).mono ?_
      rintro e v6 ⟨nm, t6, hm, rfl, hc1, hg1⟩
      have hnm : nm.length ≤ 10 := by
        clear HPa HPx HPk HB3 HB4 R
        simp only [List.mem_cons, List.not_mem_nil, or_false] at hm
        rcases hm with rfl | rfl | rfl <;> simp
      clear hm
      have X := Lib.hid ((R.out.alloc _).call hc1 hg1); clear R hc1 hg1
      clear f0 c0 c1
      have f0 := X.out.cb.frozen 4
      have c0 := blk_cell0 X.out.cb 0 rfl
      have c1 := blk_cell0 X.out.cb 4 rfl
      have R := Lib.hid (show RSt B g xs w gx [.int .i64 3, .int .i64 cl, .int .i64 no, .string (bs st), .string (bs nm), .string (bs []), .int .i64 0, .slice none 0 0] t6 (v6.setCell ⟨gx, 4, none⟩ (.string (bs nm))) from X.out.set 4 (.string (bs nm)))
      clear X
      go_wp2_with fail
      refine (HB3.out _ _ R.out.cu).mono ?_
      rintro e v7 ⟨n, t7, hn, rfl, hc1, hg1⟩
      have X := Lib.hid (R.out.call hc1 hg1); clear R hc1 hg1 f0 c0 c1
      have R := Lib.hid X.out; clear X
      go_wp2_with fail
      go_loopw [4] (fun ii wr => ∃ (j m : Nat) (sj : DSt) (A : Option Addr) (k : Nat) (ch : List (List UInt8)), ch.length = m ∧ m + j ≤ 3 ∧ ch.flatten.length ≤ 8 * m ∧ ii = .int .i64 (j : Int) ∧ RSt B g xs w gx [.int .i64 3, .int .i64 cl, .int .i64 no, .string (bs st), .string (bs nm), .string (bs []), .int .i64 0, .slice A m k] sj wr ∧ wr.ownsRow (gx + 1) 9 1 (.slice A m k) m (ch.map strv)) (fun ii _ => (intOf ii).toNat)
      case atStart => exact ⟨n + 1, 0, t7, none, 0, [], rfl, by omega, by simp, by go_num, R.out, ⟨by simp, .inl ⟨rfl, rfl⟩⟩⟩
      case round =>
        obtain ⟨j, m, sj, A, k, ch, hm, hjc, hfl, rfl, hR, hown⟩ := hrel
        clear R
        have R := Lib.hid hR; clear hR
        have HO := Lib.hid hown; clear hown
        by_cases hj0 : 0 < j
        · have hd1 : (0 : Int) < (j : Int) := by omega
          have hcx : wr.cell? ⟨gx, 7, none⟩ = some (.slice A m k) := blk_cell0 R.out.cb 7 rfl
          go_wp2
          refine wp_region_l (fun v => v.cell? ⟨gx, 7, none⟩ = some (.slice A m k)) 9 [0, 1, 2] [3, 4, 5, 6, 7, 8] [9, 10, 11] (by kernel_rfl) (by kernel_rfl) hcx ?_
          refine wpCr_bare rfl (by kernel_rfl) rfl rfl ?_; go_wp2; refine ⟨rfl, ?_⟩
          refine wpCr_step rfl (.slice A m k) (fun w' hw' => run_load1 rfl rfl (fun v => load_slice (e := 9) (by kernel_rfl) v) hw') ?_
          refine wpCr_bare rfl (by kernel_rfl) rfl rfl ?_; go_wp2; refine ⟨rfl, ?_⟩
          refine wpCr_nil ?_
          refine wpCz_step rfl ?_
          go_wp2_with fail
          refine (HB4.out _ _ R.out.drew.cu).mono ?_
          rintro e v9 ⟨b, t9, hb, rfl, hc1, hg1⟩
          have HO2 := Lib.hid (ownsRow_keep (base' := gx + 1) HO.out (w' := v9) (fun k hk => ⟨(HO.out.lt k hk).1, hg1.block k (HO.out.lt k hk).2 (fun e => by have h1 := (HO.out.lt k hk).1; have h2 := R.out.g1; have h3 := R.out.gl; injection e with e; omega)⟩))
          have X := Lib.hid (R.out.drew.call hc1 hg1); clear R hc1 hg1 HO hcx
          go_wp2_with fail
          refine ⟨blk_cell0 X.out.cb 7 rfl, ?_⟩
          refine wpCz_step rfl ?_
          go_wp2_with fail
          refine ⟨blk_cell0 X.out.cb 7 rfl, ?_⟩
          refine wpCz_step rfl ?_
          go_wp2_with fail
          have R := Lib.hid (X.out.alloc (.cells #[.int .u8 (b : Int)] 5))
          have HO3 := Lib.hid (HO2.out.alloc (.cells #[.int .u8 (b : Int)] 5))
          have HBO := Lib.hid (own_built v9 w.heap.size b #[.int .u8 (b : Int)] X.out.gr.size rfl (by omega)); clear X HO2
          refine ⟨blk_cell0 R.out.cb 7 rfl, ?_⟩
          refine wpCz_step rfl ?_
          go_wp2_with (first
            | (refine wpList_bytes_own _ rfl 22 9 _ rfl 5 E_u8.ht Try.underlying5 Try.underlying9 w.heap.size _ _ [UInt8.ofNat b] rfl (by exact HBO.out) ?_)
            | fail)
          clear HBO
          refine ⟨blk_cell0 R.out.cb 7 rfl, ?_⟩
          refine wpCz_step rfl ?_
          go_wp2_with fail
          refine (sShort_any [UInt8.ofNat b] _ (by simp)).mono ?_
          rintro e v10 ⟨rfl, hb10⟩
          have hshl := short_len [UInt8.ofNat b]
          obtain ⟨sh, hsh⟩ : ∃ sh, sh = shortL [UInt8.ofNat b] := ⟨_, rfl⟩
          rw [← hsh] at hshl ⊢
          clear hsh
          have X := Lib.hid (R.out.below hb10); clear R
          have HO2 := Lib.hid (HO3.out.keptBelow hb10); clear HO3 hb10
          go_wp2_with fail
          refine ⟨blk_cell0 X.out.cb 7 rfl, ?_⟩
          refine wpCz_step rfl ?_
          go_wp2_with fail
          have R := Lib.hid (X.out.alloc (.cells #[.string (bs sh)] 9))
          have HO3 := Lib.hid (HO2.out.alloc (.cells #[.string (bs sh)] 9)); clear X HO2
          refine ⟨blk_cell0 R.out.cb 7 rfl, ?_⟩
          refine wpCz_nil ?_
          simp only [pickOps, List.getElem?_toArray, List.getElem?_cons_succ, List.getElem?_cons_zero]
          go_wp2_with (first | (at_builtin; go_must (refine wpList_app E_str _ rfl _ _ rfl (gx + 1) _ m _ rfl HO3.out _ _ _ _ rfl (Reads.new rfl) (one1 rfl) (by omega) R.out.gb ?_; intro vv w3 hown3 hg3 hat3; obtain ⟨Av, kv, rfl, _⟩ := SlR.of_own hown3; have hgb3 : ∀ k', (Value.slice A m k).ownBlock = some k' → gx < k' := (fun k' hk => by have := (HO3.out.lt k' hk).1; omega); have R3 := Lib.hid (R.out.fresh hg3 hgb3); have hq3 := blk_cell0 R3.out.cb 7 rfl; have hfz3 := R3.out.cb.frozen 7; have HO4 := Lib.hid hown3; clear hown3 hg3 hgb3 hat3)) | fail)
          refine ⟨trivial, ?_⟩
          go_wp2_with fail
          exact ⟨⟨j - 1, m + 1, t9, Av, kv, ch ++ [sh], by simp [hm], by omega, by rw [List.flatten_append, List.length_append]; simp only [List.flatten_cons, List.flatten_nil, List.append_nil]; omega, by go_num, R3.out.set 7 _, by rw [List.map_append]; exact ownsRow_keep HO4.out (fun k' hk => ⟨(HO4.out.lt k' hk).1, Below.heap_setCell _ _ _ _ (fun e => by have h1 := (HO4.out.lt k' hk).1; have e2 : k' = gx := e; omega)⟩)⟩, by simp only [intOf]; omega⟩
        · have hj00 : j = 0 := by omega
          subst hj00 hm
          have hd1 : ¬ (0 : Int) < ((0 : Nat) : Int) := by omega
          go_wp2_with (first | ((with_reducible show wpList _ _ _ ({ dst := _, op := Op.load 38 _, type := _, pos := _, after := _, guard := _ } :: _) _ _); refine wpList_load_row _ ⟨gx, 0, none⟩ rfl [.int .i64 3, .int .i64 cl, .int .i64 no, .string (bs st), .string (bs nm), .string (bs []), .int .i64 0, .slice A ch.length k] agg_Cmd rfl (blk_cells R.out.cb) ?_) | ((with_reducible show wpList _ _ _ ({ dst := _, op := Op.store 38 _ _, type := _, pos := _, after := _, guard := _ } :: _) _ _); go_must (refine wpList_store_row _ w.heap.size 38 0 [.int .i64 3, .int .i64 cl, .int .i64 no, .string (bs st), .string (bs nm), .string (bs []), .int .i64 0, .slice A ch.length k] [] [.int .i64 0, .int .i64 0, .int .i64 0, .string (bs []), .string (bs []), .string (bs []), .int .i64 0, .slice none 0 0] [] _ rfl rfl agg_Cmd R.out.zb rfl rfl rfl (by simp [Value.oneCell']) ?_; intro v10 hzb hzg)) | fail)
          skip
          exact bodyPost_cell rfl ⟨w.heap.size, 0, none⟩ rfl [.int .i64 3, .int .i64 cl, .int .i64 no, .string (bs st), .string (bs nm), .string (bs []), .int .i64 0, .slice A ch.length k] agg_Cmd rfl (blk_cells hzb) rfl ⟨⟨⟨3, cl, no, st, nm, [], 0, ch⟩, _, _, rfl, small_c (by assumption) (by assumption) (by simp) (by omega) (by omega), cmd_mine (c := ⟨3, cl, no, st, nm, [], 0, ch⟩) (ownsRow_keep (base' := w.heap.size) HO.out (fun k' hk => ⟨by have h1 := (HO.out.lt k' hk).1; have h2 := R.out.g1; omega, hzg.block k' (HO.out.lt k' hk).2 (fun e => by have h1 := (HO.out.lt k' hk).1; have h2 := R.out.g1; injection e with e; omega)⟩)), R.out.cu.keep hzg (fun k hk => by injection hk with hk; omega), grown_New R.out.gr hzg (Nat.le_refl _)⟩⟩
    by_cases hk7 : kd = 7
    · subst hk7
      have c0 := blk_cell0 R.out.cb 0 rfl
      go_wp2_with (first | ((with_reducible show wpList _ _ _ ({ dst := _, op := Op.load 38 _, type := _, pos := _, after := _, guard := _ } :: _) _ _); refine wpList_load_row _ ⟨gx, 0, none⟩ rfl [.int .i64 7, .int .i64 cl, .int .i64 no, .string (bs []), .string (bs []), .string (bs []), .int .i64 0, .slice none 0 0] agg_Cmd rfl (blk_cells R.out.cb) ?_) | ((with_reducible show wpList _ _ _ ({ dst := _, op := Op.store 38 _ _, type := _, pos := _, after := _, guard := _ } :: _) _ _); go_must (refine wpList_store_row _ w.heap.size 38 0 [.int .i64 7, .int .i64 cl, .int .i64 no, .string (bs []), .string (bs []), .string (bs []), .int .i64 0, .slice none 0 0] [] [.int .i64 0, .int .i64 0, .int .i64 0, .string (bs []), .string (bs []), .string (bs []), .int .i64 0, .slice none 0 0] [] _ rfl rfl agg_Cmd R.out.zb rfl rfl rfl (by simp [Value.oneCell']) ?_; intro v10 hzb hzg)) | fail)
      skip
      exact bodyPost_cell rfl ⟨w.heap.size, 0, none⟩ rfl [.int .i64 7, .int .i64 cl, .int .i64 no, .string (bs []), .string (bs []), .string (bs []), .int .i64 0, .slice none 0 0] agg_Cmd rfl (blk_cells hzb) rfl ⟨⟨⟨7, cl, no, [], [], [], 0, []⟩, _, _, rfl, small_c (by first | assumption | simp) (by first | assumption | simp) (by first | assumption | simp) (by simp) (by simp), cmd_mine (c := ⟨7, cl, no, [], [], [], 0, []⟩) ⟨by simp, .inl ⟨rfl, rfl⟩⟩, R.out.cu.keep hzg (fun k hk => by injection hk with hk; omega), grown_New R.out.gr hzg (Nat.le_refl _)⟩⟩
    by_cases hk4 : kd = 4
    · subst hk4
      have c0 := blk_cell0 R.out.cb 0 rfl
      go_wp2_with fail
      refine (HPa.out _ _ _ _ (R.out.alloc _).cu (by have h1 := R.out.gb; have h2 := R.out.g1; have h3 := R.out.gl; (try rw [setCell_size] at h1); omega) (reads_new_strs2 _ _ _ _ [ [97], [98], [97, 98] ] rfl (by first | rfl | rw [setCell_size]))).mono ?_
      rintro e v5 ⟨st, t5, hm, rfl, hc1, hg1⟩
      have hst : st.length ≤ 10 := by
        clear HPa HPx HPk HB3 HB4 R
        simp only [List.mem_cons, List.not_mem_nil, or_false] at hm
        rcases hm with rfl | rfl | rfl <;> simp
      clear hm
      have X := Lib.hid ((R.out.alloc _).call hc1 hg1); clear R hc1 hg1
      try clear f0
      clear c0
      have f0 := X.out.cb.frozen 3
      have c0 := blk_cell0 X.out.cb 0 rfl
      have c1 := blk_cell0 X.out.cb 3 rfl
      have R := Lib.hid (show RSt B g xs w gx [.int .i64 4, .int .i64 cl, .int .i64 no, .string (bs st), .string (bs []), .string (bs []), .int .i64 0, .slice none 0 0] t5 (v5.setCell ⟨gx, 3, none⟩ (.string (bs st))) from X.out.set 3 (.string (bs st)))
      clear X
      go_wp2_with fail
      refine (HPx.out _ _ _ _ (R.out.alloc _).cu (by have h1 := R.out.gb; have h2 := R.out.g1; have h3 := R.out.gl; (try rw [setCell_size] at h1); omega) (reads_new_strs2 _ _ _ _ [ [120], [121], [122] ] rfl (by first | rfl | rw [setCell_size]))).mono ?_
      rintro e v6 ⟨nm, t6, hm, rfl, hc1, hg1⟩
      have hnm : nm.length ≤ 10 := by
        clear HPa HPx HPk HB3 HB4 R
        simp only [List.mem_cons, List.not_mem_nil, or_false] at hm
        rcases hm with rfl | rfl | rfl <;> simp
      clear hm
      have X := Lib.hid ((R.out.alloc _).call hc1 hg1); clear R hc1 hg1
      clear f0 c0 c1
      have f0 := X.out.cb.frozen 4
      have c0 := blk_cell0 X.out.cb 0 rfl
      have c1 := blk_cell0 X.out.cb 4 rfl
      have R := Lib.hid (show RSt B g xs w gx [.int .i64 4, .int .i64 cl, .int .i64 no, .string (bs st), .string (bs nm), .string (bs []), .int .i64 0, .slice none 0 0] t6 (v6.setCell ⟨gx, 4, none⟩ (.string (bs nm))) from X.out.set 4 (.string (bs nm)))
      clear X
      go_wp2_with fail
      refine (HPk.out _ _ _ _ (R.out.alloc _).cu (by have h1 := R.out.gb; have h2 := R.out.g1; have h3 := R.out.gl; (try rw [setCell_size] at h1); omega) (reads_new_strs2 _ _ _ _ [ [107, 101, 101, 112], [116] ] rfl (by first | rfl | rw [setCell_size]))).mono ?_
      rintro e v7 ⟨tg, t7, hm, rfl, hc1, hg1⟩
      have htg : tg.length ≤ 10 := by
        clear HPa HPx HPk HB3 HB4 R
        simp only [List.mem_cons, List.not_mem_nil, or_false] at hm
        rcases hm with rfl | rfl <;> simp
      clear hm
      have X := Lib.hid ((R.out.alloc _).call hc1 hg1); clear R hc1 hg1
      clear f0 c0 c1
      have f0 := X.out.cb.frozen 5
      have c0 := blk_cell0 X.out.cb 0 rfl
      have c1 := blk_cell0 X.out.cb 5 rfl
      have R := Lib.hid (show RSt B g xs w gx [.int .i64 4, .int .i64 cl, .int .i64 no, .string (bs st), .string (bs nm), .string (bs tg), .int .i64 0, .slice none 0 0] t7 (v7.setCell ⟨gx, 5, none⟩ (.string (bs tg))) from X.out.set 5 (.string (bs tg)))
      clear X
      go_wp2_with (first | ((with_reducible show wpList _ _ _ ({ dst := _, op := Op.load 38 _, type := _, pos := _, after := _, guard := _ } :: _) _ _); refine wpList_load_row _ ⟨gx, 0, none⟩ rfl [.int .i64 4, .int .i64 cl, .int .i64 no, .string (bs st), .string (bs nm), .string (bs tg), .int .i64 0, .slice none 0 0] agg_Cmd rfl (blk_cells R.out.cb) ?_) | ((with_reducible show wpList _ _ _ ({ dst := _, op := Op.store 38 _ _, type := _, pos := _, after := _, guard := _ } :: _) _ _); go_must (refine wpList_store_row _ w.heap.size 38 0 [.int .i64 4, .int .i64 cl, .int .i64 no, .string (bs st), .string (bs nm), .string (bs tg), .int .i64 0, .slice none 0 0] [] [.int .i64 0, .int .i64 0, .int .i64 0, .string (bs []), .string (bs []), .string (bs []), .int .i64 0, .slice none 0 0] [] _ rfl rfl agg_Cmd R.out.zb rfl rfl rfl (by simp [Value.oneCell']) ?_; intro v10 hzb hzg)) | fail)
      skip
      exact bodyPost_cell rfl ⟨w.heap.size, 0, none⟩ rfl [.int .i64 4, .int .i64 cl, .int .i64 no, .string (bs st), .string (bs nm), .string (bs tg), .int .i64 0, .slice none 0 0] agg_Cmd rfl (blk_cells hzb) rfl ⟨⟨⟨4, cl, no, st, nm, tg, 0, []⟩, _, _, rfl, small_c (by first | assumption | simp) (by first | assumption | simp) (by first | assumption | simp) (by simp) (by simp), cmd_mine (c := ⟨4, cl, no, st, nm, tg, 0, []⟩) ⟨by simp, .inl ⟨rfl, rfl⟩⟩, R.out.cu.keep hzg (fun k hk => by injection hk with hk; omega), grown_New R.out.gr hzg (Nat.le_refl _)⟩⟩
    by_cases hk5 : kd = 5
    · subst hk5
      have c0 := blk_cell0 R.out.cb 0 rfl
      go_wp2_with fail
      refine (HPa.out _ _ _ _ (R.out.alloc _).cu (by have h1 := R.out.gb; have h2 := R.out.g1; have h3 := R.out.gl; (try rw [setCell_size] at h1); omega) (reads_new_strs2 _ _ _ _ [ [97], [98], [97, 98] ] rfl (by first | rfl | rw [setCell_size]))).mono ?_
      rintro e v5 ⟨st, t5, hm, rfl, hc1, hg1⟩
      have hst : st.length ≤ 10 := by
        clear HPa HPx HPk HB3 HB4 R
        simp only [List.mem_cons, List.not_mem_nil, or_false] at hm
        rcases hm with rfl | rfl | rfl <;> simp
      clear hm
      have X := Lib.hid ((R.out.alloc _).call hc1 hg1); clear R hc1 hg1
      try clear f0
      clear c0
      have f0 := X.out.cb.frozen 3
      have c0 := blk_cell0 X.out.cb 0 rfl
      have c1 := blk_cell0 X.out.cb 3 rfl
      have R := Lib.hid (show RSt B g xs w gx [.int .i64 5, .int .i64 cl, .int .i64 no, .string (bs st), .string (bs []), .string (bs []), .int .i64 0, .slice none 0 0] t5 (v5.setCell ⟨gx, 3, none⟩ (.string (bs st))) from X.out.set 3 (.string (bs st)))
      clear X
      go_wp2_with fail
      refine (HB4.out _ _ R.out.cu).mono ?_
      rintro e v6 ⟨nn, t6, hnn, rfl, hc1, hg1⟩
      have X := Lib.hid (R.out.call hc1 hg1); clear R hc1 hg1 f0 c0 c1
      have f0 := X.out.cb.frozen 6
      have c0 := blk_cell0 X.out.cb 0 rfl
      have c1 := blk_cell0 X.out.cb 6 rfl
      have R := Lib.hid (show RSt B g xs w gx [.int .i64 5, .int .i64 cl, .int .i64 no, .string (bs st), .string (bs []), .string (bs []), .int .i64 (nn : Int), .slice none 0 0] t6 (v6.setCell ⟨gx, 6, none⟩ (.int .i64 (nn : Int))) from X.out.set 6 (.int .i64 (nn : Int)))
      clear X
      go_wp2_with (first | ((with_reducible show wpList _ _ _ ({ dst := _, op := Op.load 38 _, type := _, pos := _, after := _, guard := _ } :: _) _ _); refine wpList_load_row _ ⟨gx, 0, none⟩ rfl [.int .i64 5, .int .i64 cl, .int .i64 no, .string (bs st), .string (bs []), .string (bs []), .int .i64 (nn : Int), .slice none 0 0] agg_Cmd rfl (blk_cells R.out.cb) ?_) | ((with_reducible show wpList _ _ _ ({ dst := _, op := Op.store 38 _ _, type := _, pos := _, after := _, guard := _ } :: _) _ _); go_must (refine wpList_store_row _ w.heap.size 38 0 [.int .i64 5, .int .i64 cl, .int .i64 no, .string (bs st), .string (bs []), .string (bs []), .int .i64 (nn : Int), .slice none 0 0] [] [.int .i64 0, .int .i64 0, .int .i64 0, .string (bs []), .string (bs []), .string (bs []), .int .i64 0, .slice none 0 0] [] _ rfl rfl agg_Cmd R.out.zb rfl rfl rfl (by simp [Value.oneCell']) ?_; intro v10 hzb hzg)) | fail)
      skip
      exact bodyPost_cell rfl ⟨w.heap.size, 0, none⟩ rfl [.int .i64 5, .int .i64 cl, .int .i64 no, .string (bs st), .string (bs []), .string (bs []), .int .i64 (nn : Int), .slice none 0 0] agg_Cmd rfl (blk_cells hzb) rfl ⟨⟨⟨5, cl, no, st, [], [], (nn : Int), []⟩, _, _, rfl, small_c (by first | assumption | simp) (by first | assumption | simp) (by first | assumption | simp) (by simp) (by simp), cmd_mine (c := ⟨5, cl, no, st, [], [], (nn : Int), []⟩) ⟨by simp, .inl ⟨rfl, rfl⟩⟩, R.out.cu.keep hzg (fun k hk => by injection hk with hk; omega), grown_New R.out.gr hzg (Nat.le_refl _)⟩⟩
    have b7 : (kd != 7) = true := by simpa using hk7
    have b3 : (kd == 3) = false := by simpa using hk3
    have b4 : (kd == 4) = false := by simpa using hk4
    have b5 : (kd == 5) = false := by simpa using hk5
    clear hk3 hk7 hk4 hk5
    have c0 := blk_cell0 R.out.cb 0 rfl
    go_wp2_with fail
    refine (HPa.out _ _ _ _ (R.out.alloc _).cu (by have h1 := R.out.gb; have h2 := R.out.g1; have h3 := R.out.gl; (try rw [setCell_size] at h1); omega) (reads_new_strs2 _ _ _ _ [ [97], [98], [97, 98] ] rfl (by first | rfl | rw [setCell_size]))).mono ?_
    rintro e v5 ⟨st, t5, hm, rfl, hc1, hg1⟩
    have hst : st.length ≤ 10 := by
      clear HPa HPx HPk HB3 HB4 R
      simp only [List.mem_cons, List.not_mem_nil, or_false] at hm
      rcases hm with rfl | rfl | rfl <;> simp
    clear hm
    have X := Lib.hid ((R.out.alloc _).call hc1 hg1); clear R hc1 hg1
    try clear f0
    clear c0
    have f0 := X.out.cb.frozen 3
    have c0 := blk_cell0 X.out.cb 0 rfl
    have c1 := blk_cell0 X.out.cb 3 rfl
    have R := Lib.hid (show RSt B g xs w gx [.int .i64 kd, .int .i64 cl, .int .i64 no, .string (bs st), .string (bs []), .string (bs []), .int .i64 0, .slice none 0 0] t5 (v5.setCell ⟨gx, 3, none⟩ (.string (bs st))) from X.out.set 3 (.string (bs st)))
    clear X
    go_wp2_with (first | ((with_reducible show wpList _ _ _ ({ dst := _, op := Op.load 38 _, type := _, pos := _, after := _, guard := _ } :: _) _ _); refine wpList_load_row _ ⟨gx, 0, none⟩ rfl [.int .i64 kd, .int .i64 cl, .int .i64 no, .string (bs st), .string (bs []), .string (bs []), .int .i64 0, .slice none 0 0] agg_Cmd rfl (blk_cells R.out.cb) ?_) | ((with_reducible show wpList _ _ _ ({ dst := _, op := Op.store 38 _ _, type := _, pos := _, after := _, guard := _ } :: _) _ _); go_must (refine wpList_store_row _ w.heap.size 38 0 [.int .i64 kd, .int .i64 cl, .int .i64 no, .string (bs st), .string (bs []), .string (bs []), .int .i64 0, .slice none 0 0] [] [.int .i64 0, .int .i64 0, .int .i64 0, .string (bs []), .string (bs []), .string (bs []), .int .i64 0, .slice none 0 0] [] _ rfl rfl agg_Cmd R.out.zb rfl rfl rfl (by simp [Value.oneCell']) ?_; intro v10 hzb hzg)) | fail)
    skip
    exact bodyPost_cell rfl ⟨w.heap.size, 0, none⟩ rfl [.int .i64 kd, .int .i64 cl, .int .i64 no, .string (bs st), .string (bs []), .string (bs []), .int .i64 0, .slice none 0 0] agg_Cmd rfl (blk_cells hzb) rfl ⟨⟨⟨kd, cl, no, st, [], [], 0, []⟩, _, _, rfl, small_c (by first | assumption | simp) (by first | assumption | simp) (by first | assumption | simp) (by simp) (by simp), cmd_mine (c := ⟨kd, cl, no, st, [], [], 0, []⟩) ⟨by simp, .inl ⟨rfl, rfl⟩⟩, R.out.cu.keep hzg (fun k hk => by injection hk with hk; omega), grown_New R.out.gr hzg (Nat.le_refl _)⟩⟩

end Go.Proofs.Ytinacpjelephoaa
