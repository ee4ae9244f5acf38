/-
  An id and a row of ids that the reference draws: they are there, and not great. Conditions: a code of at most 2^20 bytes.
  A row of instances that the reference draws: they are there, and not great. Conditions: a code of at most 2^20 bytes.
  What FnInsts draws: instances, ids, commands: they are there, and not great. Conditions: a code of at most 2^20 bytes.
-/
import Derived.Test.YtonaacdefidomaaGreatBD
import Derived.Test.YtonaacdefidomaaGreatBC
import Derived.Test.YtonaacdefidomaaGreatBA
import Derived.Test.YtonaacdefidomaaGreatBF
import Derived.Test.YtonaacdefidomaaGreatBI
import Derived.Test.YtonaacdefidomaaGreatBG
set_option linter.unusedVariables false
set_option linter.unusedSimpArgs false
namespace Go.Proofs.YtonaacdefidomaaGreat
open Go.RowKit

theorem below_e (B g n : Nat) (xs : List UInt8) (s : DSt) (w : World) (hc : Cur B g xs s w) (h1 : 1 ≤ n) (h2 : n ≤ 1000000000) :
    Calls Tryz.prog 31 #[.pointer (some ⟨g, 0, none⟩), .int .i64 (n : Int)] w fun e w' => ∃ k s', k < n ∧ e = .returned (.int .i64 (k : Int)) ∧ Cur B g xs s' w' ∧ w.grownBy w' (some g) :=
  (l1Below_x B g n xs s w hc h1 h2).mono (fun _ _ h => ⟨_, _, belowF_lt xs n s h1, h.1, h.2.1, h.2.2⟩)
theorem once_e (B g n : Nat) (xs : List UInt8) (s : DSt) (w : World) (hc : Cur B g xs s w) (h1 : 1 ≤ n) (h2 : n ≤ 1000000000) :
    Calls Tryz.prog 45 #[.pointer (some ⟨g, 0, none⟩), .int .i64 (n : Int)] w fun e w' => ∃ b s', e = .returned (.bool b) ∧ Cur B g xs s' w' ∧ w.grownBy w' (some g) :=
  (l1Once_x B g n xs s w hc h1 h2).mono (fun _ _ h => ⟨_, _, h.1, h.2.1, h.2.2⟩)
theorem pick_e (B g : Nat) (xs : List UInt8) (s : DSt) (L : List Int) (g2 n c : Nat) (w : World) (hc : Cur B g xs s w) (hn : n = L.length) (h0 : 1 ≤ n) (h1 : n ≤ 256) (hg2 : g2 ≠ g) (hr : Reads w 1 (some ⟨g2, 0, none⟩) n (L.map (Value.int .i64))) :
    Calls Tryz.prog 48 #[.pointer (some ⟨g, 0, none⟩), .slice (some ⟨g2, 0, none⟩) n c] w fun e w' => ∃ v s', e = .returned (.int .i64 v) ∧ Cur B g xs s' w' ∧ w.grownBy w' (some g) :=
  (l1PickInt_x B g xs s L g2 n c w hc hn h0 h1 hg2 hr).mono (fun _ _ h => ⟨_, _, h.1, h.2.1, h.2.2⟩)
theorem reads_ints (v : World) (cs : Array Value) (e g : Nat) (L : List Int) (hc : cs.toList = L.map (Value.int .i64)) (hg : g = v.heap.size) : Reads (v.alloc (.cells cs e)) 1 (some ⟨g, 0, none⟩) L.length (L.map (Value.int .i64)) := by
  subst hg
  exact reads_new_ints v cs e L hc
theorem row_call {w w' : World} {base e size n g : Nat} {v : Value} {xs : List Value} (h : w.ownsRow base e size v n xs) (hg : w.grownBy w' (some g)) (hlt : g < base) : w'.ownsRow base e size v n xs :=
  ownsRow_keep h (fun b hb => ⟨(h.lt b hb).1, hg.block b (h.lt b hb).2 (fun e => by have := (h.lt b hb).1; injection e with e; omega)⟩)
structure IdPost (B g : Nat) (xs : List UInt8) (w : World) (e : Ending) (w' : World) : Prop where
  out : ∃ (d : IdD) (s' : DSt), e = .returned (.agg #[.int .i64 d.rep, .int .i64 d.slot]) ∧ Cur B g xs s' w' ∧ w.grownBy w' (some g)
set_option maxRecDepth 100000 in
set_option maxHeartbeats 2000000 in
theorem l8DrawId_x (B g : Nat) (xs : List UInt8) (s : DSt) (w : World) (hc : Cur B g xs s w) :
    Calls Tryz.prog 23 #[.pointer (some ⟨g, 0, none⟩)] w (IdPost B g xs w) := by
  have hgl := hc.lt
  have HB3 := Lib.hid (fun w s hc => below_e B g 3 xs s w hc (by omega) (by omega))
  have HB5 := Lib.hid (fun w s hc => below_e B g 5 xs s w hc (by omega) (by omega))
  have H25 := Lib.hid (fun w s hc => once_e B g 25 xs s w hc (by omega) (by omega))
  have HPI := Lib.hid (fun w s g2 c hc hg hr => pick_e B g xs s [0, 6, 7] g2 3 c w hc rfl (by omega) (by omega) hg hr)
  have D := Lib.hid ((DW.start hc).newA 26 [.int .i64 0, .int .i64 0]); clear hc
  go_enter Tryz.func23, Tryz.ntmps23
  go_wp2_with fail
  refine (HB3.out _ _ D.out.cu).mono ?_
  rintro e w1 ⟨k1, s1, hk1, rfl, hc1, hg1⟩
  have X := Lib.hid (D.out.call hc1 hg1); clear D hc1 hg1
  have D := Lib.hid X.out; clear X
  go_wp2_with fail
  refine (HB3.out _ _ D.out.cu).mono ?_
  rintro e w2 ⟨k2, s2, hk2, rfl, hc1, hg1⟩
  have X := Lib.hid (D.out.call hc1 hg1); clear D hc1 hg1
  have D := Lib.hid X.out; clear X
  obtain ⟨gx, hgx⟩ : ∃ x, x = w2.heap.size := ⟨_, rfl⟩
  have HGX := Lib.hid hgx; clear hgx
  obtain ⟨r, hr⟩ : ∃ r : Int, r = (k1 : Int) := ⟨_, rfl⟩
  obtain ⟨q, hq⟩ : ∃ r : Int, r = 1 + (k2 : Int) := ⟨_, rfl⟩
  go_wp2_with (first | ((with_reducible show wpList _ _ _ ({ dst := _, op := Op.store 26 _ _, type := _, pos := _, after := _, guard := _ } :: _) _ _); rw [← HGX.out, ← hr, ← hq]; go_must (refine wpList_store_row _ gx 26 0 [.int .i64 r, .int .i64 q] [] [.int .i64 0, .int .i64 0] [] _ rfl rfl agg_Id (by rw [HGX.out]; exact blk_new w2 _ _) rfl rfl rfl (by simp [Value.oneCell']) ?_; intro w4 hsb hg; have X := Lib.hid (show DW B g xs w [(gx, 26, [.int .i64 r, .int .i64 q]), (w.heap.size, 26, [.int .i64 0, .int .i64 0])] [] s2 w4 from DW.put (l := []) ((D.out.newA 26 [.int .i64 0, .int .i64 0]).cast HGX.out.symm) hg (by simpa using hsb)); clear D hsb hg; have D := Lib.hid X.out; clear X)) | fail)
  clear hr hq
  refine (H25.out _ _ D.out.cu).mono ?_
  rintro e w5 ⟨b, s3, rfl, hc1, hg1⟩
  have X := Lib.hid (D.out.call hc1 hg1); clear D hc1 hg1
  have D := Lib.hid X.out; clear X
  cases b with
  | false =>
    go_wp2_with (first | ((with_reducible show wpList _ _ _ ({ dst := _, op := Op.load 26 _, type := _, pos := _, after := _, guard := _ } :: _) _ _); refine wpList_load_row _ ⟨gx, 0, none⟩ rfl [.int .i64 r, .int .i64 q] agg_Id rfl (blk_cells (DW.b0 (l := []) D.out)) ?_) | ((with_reducible show wpList _ _ _ ({ dst := _, op := Op.store 26 _ _, type := _, pos := _, after := _, guard := _ } :: _) _ _); go_must (refine wpList_store_row _ w.heap.size 26 0 [.int .i64 r, .int .i64 q] [] [.int .i64 0, .int .i64 0] [] _ rfl rfl agg_Id (DW.b0 (l := [_]) D.out) rfl rfl rfl (by simp [Value.oneCell']) ?_; intro v10 hzb hzg)) | fail)
    have X := Lib.hid (D.out.put (l := [_]) hzg (by simpa using hzb)); clear D hzg
    exact bodyPost_cell rfl ⟨w.heap.size, 0, none⟩ rfl [.int .i64 r, .int .i64 q] agg_Id rfl (blk_cells (by simpa using hzb)) rfl ⟨⟨⟨r, q⟩, _, rfl, X.out.cu, X.out.gr⟩⟩
  | true =>
    go_wp2_with fail
    refine (HB5.out _ _ D.out.cu).mono ?_
    rintro e w6 ⟨k3, s4, hk3, rfl, hc1, hg1⟩
    have X := Lib.hid (D.out.call hc1 hg1); clear D hc1 hg1
    have D := Lib.hid X.out; clear X
    obtain ⟨r2, hr2⟩ : ∃ r : Int, r = (k3 : Int) - 1 := ⟨_, rfl⟩
    go_wp2_with fail
    refine (HPI.out _ _ _ _ (D.out.alloc _).cu (by have := D.out.gr.size; omega) (reads_ints _ _ _ _ [0, 6, 7] rfl rfl)).mono ?_
    rintro e w7 ⟨q2, s5, rfl, hc1, hg1⟩
    have X := Lib.hid ((D.out.alloc _).call hc1 hg1); clear D hc1 hg1
    have D := Lib.hid X.out; clear X
    rw [← hr2]
    clear hr2
    go_wp2_with (first | ((with_reducible show wpList _ _ _ ({ dst := _, op := Op.store 26 _ _, type := _, pos := _, after := _, guard := _ } :: _) _ _); (refine wpList_store_row _ gx 26 0 [.int .i64 r2, .int .i64 q2] [] [.int .i64 r, .int .i64 q] [] _ rfl rfl agg_Id (DW.b0 (l := []) D.out) rfl rfl rfl (by simp [Value.oneCell']) ?_; intro v8 hsb hg; have X := Lib.hid (D.out.put (l := []) hg (by simpa using hsb)); clear D hsb hg; have D := Lib.hid X.out; clear X)) | ((with_reducible show wpList _ _ _ ({ dst := _, op := Op.load 26 _, type := _, pos := _, after := _, guard := _ } :: _) _ _); refine wpList_load_row _ ⟨gx, 0, none⟩ rfl [.int .i64 r2, .int .i64 q2] agg_Id rfl (blk_cells (DW.b0 (l := []) D.out)) ?_) | ((with_reducible show wpList _ _ _ ({ dst := _, op := Op.store 26 _ _, type := _, pos := _, after := _, guard := _ } :: _) _ _); go_must (refine wpList_store_row _ w.heap.size 26 0 [.int .i64 r2, .int .i64 q2] [] [.int .i64 0, .int .i64 0] [] _ rfl rfl agg_Id (DW.b0 (l := [_]) D.out) rfl rfl rfl (by simp [Value.oneCell']) ?_; intro v10 hzb hzg)) | fail)
    have X := Lib.hid (D.out.put (l := [_]) hzg (by simpa using hzb)); clear D hzg
    exact bodyPost_cell rfl ⟨w.heap.size, 0, none⟩ rfl [.int .i64 r2, .int .i64 q2] agg_Id rfl (blk_cells (by simpa using hzb)) rfl ⟨⟨⟨r2, q2⟩, _, rfl, X.out.cu, X.out.gr⟩⟩

structure IdsPost (B g : Nat) (xs : List UInt8) (w : World) (e : Ending) (w' : World) : Prop where
  out : ∃ (l : List IdD) (A : Option Addr) (q k : Nat) (s' : DSt), e = .returned (.slice A q k) ∧ q = l.length ∧ q ≤ 10 ∧ w'.ownsRow w.heap.size 26 2 (.slice A q k) q (idCells l) ∧ Cur B g xs s' w' ∧ w.grownBy w' (some g)
theorem id_one (a b : Int) : ∀ u ∈ idCells [⟨a, b⟩], u.oneCell' = true := by
  intro u hu
  simp [idCells] at hu
  rcases hu with rfl | rfl <;> rfl
theorem DW.row {B g : Nat} {xs : List UInt8} {w0 w w' : World} {s : DSt} {e size n : Nat} {v : Value} {l : List Value} (h : DW B g xs w0 [] [] s w) (ho : w.ownsRow w0.heap.size e size v n l) (hg : w.grownBy w' v.ownBlock) : DW B g xs w0 [] [] s w' :=
  h.keep (h.cu.keep hg (fun k hk => by have := (ho.lt k hk).1; have := h.gl; omega)) hg (fun k hk => .inr ⟨(ho.lt k hk).1, by simp⟩)
set_option maxRecDepth 100000 in
set_option maxHeartbeats 4000000 in
theorem l8Ids_x (B g : Nat) (xs : List UInt8) (s : DSt) (w : World) (hc : Cur B g xs s w) :
    Calls Tryz.prog 38 #[.pointer (some ⟨g, 0, none⟩)] w (IdsPost B g xs w) := by
  have hgl := hc.lt
  have H4 := Lib.hid (fun w s hc => once_e B g 4 xs s w hc (by omega) (by omega))
  have H15 := Lib.hid (fun w s hc => once_e B g 15 xs s w hc (by omega) (by omega))
  have HID := Lib.hid (fun w s hc => l8DrawId_x B g xs s w hc)
  have D := Lib.hid (DW.start hc); clear hc
  go_enter Tryz.func38, Tryz.ntmps38
  go_wp2
  go_loopw [3, 4] (fun ll rr wr => ∃ (r q : Nat) (sj : DSt) (A : Option Addr) (k : Nat) (l : List IdD), r ≤ 3 ∧ q = l.length ∧ q ≤ 3 * r ∧ ll = .slice A q k ∧ rr = .int .i64 (r : Int) ∧ DW B g xs w [] [] sj wr ∧ wr.ownsRow w.heap.size 26 2 (.slice A q k) q (idCells l)) (fun _ rr _ => 3 - (intOf rr).toNat)
  case atStart => exact ⟨0, 0, s, some ⟨w.heap.size, 0, none⟩, 0, [], Nat.zero_le _, rfl, Nat.zero_le _, rfl, rfl, D.out.alloc _, by have h1 := World.ownsRow_made (base := w.heap.size) (size := 2) (e := 26) w #[] 0 (by simp) (by simp [maxLen]) rfl; simpa [idCells] using h1⟩
  case round =>
    obtain ⟨r, q, sj, A, k, l, hr, hq, hqr, rfl, rfl, hD, hO⟩ := hrel
    clear D
    have D := Lib.hid hD; clear hD
    have HO := Lib.hid hO; clear hO
    have HQ := Lib.hid hq; clear hq
    by_cases hlt : r < 3
    · have hd1 : (r : Int) < 3 := by omega
      go_wp2
      go_loopw [3, 5] (fun ll pp wr => ∃ (p q : Nat) (sj : DSt) (A : Option Addr) (k : Nat) (l : List IdD), 1 ≤ p ∧ p ≤ 4 ∧ q = l.length ∧ q + 1 ≤ 3 * r + p ∧ ll = .slice A q k ∧ pp = .int .i64 (p : Int) ∧ DW B g xs w [] [] sj wr ∧ wr.ownsRow w.heap.size 26 2 (.slice A q k) q (idCells l)) (fun _ pp _ => 4 - (intOf pp).toNat)
      case atStart => exact ⟨1, q, sj, A, k, l, by omega, by omega, HQ.out, by omega, rfl, rfl, D.out, HO.out⟩
      case round =>
        obtain ⟨p, q, sj, A, k, l, hp1, hp4, hq, hqr, rfl, rfl, hD, hO⟩ := hrel
        clear D HO HQ
        have D := Lib.hid hD; clear hD
        have HO := Lib.hid hO; clear hO
        have HQ := Lib.hid hq; clear hq
        by_cases hlp : p < 4
        · have hd2 : (p : Int) < 4 := by omega
          go_wp2_with fail
          refine (H4.out _ _ D.out.cu).mono ?_
          rintro e w1 ⟨b, s1, rfl, hc1, hg1⟩
          have X := Lib.hid (row_call HO.out hg1 (by omega)); clear HO
          have HO := Lib.hid X.out; clear X
          have X := Lib.hid (D.out.call hc1 hg1); clear D hc1 hg1
          have D := Lib.hid X.out; clear X
          cases b with
          | true =>
            go_wp2_with (first | (at_builtin; go_must (refine wpList_app E_Id _ rfl _ _ rfl w.heap.size _ q _ rfl (HO.out.alloc _) _ _ _ (idCells [⟨(r : Int), (p : Int)⟩]) rfl (Reads.new (e := 26) rfl) (id_one _ _) (by omega) (by have := D.out.gr.size; simp; omega) ?_; intro vv w3 hown3 hg3 hat3; obtain ⟨Av, kv, rfl, _⟩ := SlR.of_own hown3; have X := Lib.hid ((D.out.alloc _).row (HO.out.alloc _) hg3); clear D; have D := Lib.hid X.out; clear X; rw [← idCells_app] at hown3; clear HO; have HO := Lib.hid hown3; clear hown3 hg3 hat3)) | fail)
            exact ⟨⟨p + 1, q + 1, s1, Av, kv, l ++ [⟨(r : Int), (p : Int)⟩], by omega, by omega, by rw [List.length_append, ← HQ.out]; rfl, by omega, rfl, by go_num, D.out, HO.out⟩, by simp only [intOf]; omega⟩
          | false =>
            go_wp2
            exact ⟨⟨p + 1, q, s1, A, k, l, by omega, by omega, HQ.out, by omega, rfl, by go_num, D.out, HO.out⟩, by simp only [intOf]; omega⟩
        · have hd2 : ¬ (p : Int) < 4 := by omega
          go_wp2
          exact ⟨⟨r + 1, q, sj, A, k, l, by omega, HQ.out, by omega, rfl, by go_num, D.out, HO.out⟩, by simp only [intOf]; omega⟩
    · have hd1 : ¬ (r : Int) < 3 := by omega
      go_wp2_with fail
      refine (H15.out _ _ D.out.cu).mono ?_
      rintro e w1 ⟨b, s1, rfl, hc1, hg1⟩
      have X := Lib.hid (row_call HO.out hg1 (by omega)); clear HO
      have HO := Lib.hid X.out; clear X
      have X := Lib.hid (D.out.call hc1 hg1); clear D hc1 hg1
      have D := Lib.hid X.out; clear X
      cases b with
      | false =>
        go_wp2
        go_ret
        exact ⟨⟨l, A, q, k, s1, ret_eq rfl, HQ.out, by omega, HO.out, D.out.cu, D.out.gr⟩⟩
      | true =>
        go_wp2_with fail
        refine (HID.out _ _ D.out.cu).mono ?_
        rintro e w2 ⟨d, s2, rfl, hc1, hg1⟩
        have X := Lib.hid (row_call HO.out hg1 (by omega)); clear HO
        have HO := Lib.hid X.out; clear X
        have X := Lib.hid (D.out.call hc1 hg1); clear D hc1 hg1
        have D := Lib.hid X.out; clear X
        obtain ⟨dr, ds⟩ := d
        go_wp2_with (first | (at_builtin; go_must (refine wpList_app E_Id _ rfl _ _ rfl w.heap.size _ q _ rfl (HO.out.alloc _) _ _ _ (idCells [⟨dr, ds⟩]) rfl (Reads.new (e := 26) rfl) (id_one _ _) (by omega) (by have := D.out.gr.size; simp; omega) ?_; intro vv w3 hown3 hg3 hat3; obtain ⟨Av, kv, rfl, _⟩ := SlR.of_own hown3; have X := Lib.hid ((D.out.alloc _).row (HO.out.alloc _) hg3); clear D; have D := Lib.hid X.out; clear X; rw [← idCells_app] at hown3; clear HO; have HO := Lib.hid hown3; clear hown3 hg3 hat3)) | fail)
        go_ret
        exact ⟨⟨l ++ [⟨dr, ds⟩], Av, q + 1, kv, s2, ret_eq rfl, by rw [List.length_append, ← HQ.out]; rfl, by omega, HO.out, D.out.cu, D.out.gr⟩⟩

end Go.Proofs.YtonaacdefidomaaGreat
namespace Go.Proofs.YtonaacdefidomaaGreat
open Go.RowKit

structure InstsPost (B g : Nat) (xs : List UInt8) (w : World) (e : Ending) (w' : World) : Prop where
  out : ∃ (l : List InstD) (A : Option Addr) (q k : Nat) (s' : DSt), e = .returned (.slice A q k) ∧ q = l.length ∧ q ≤ 6 ∧ (∀ y ∈ l, y.c.wt ≤ 301) ∧ Mine w' w.heap.size (.sl 38 16 q (cat InstD.c l) .nil) [.slice A q k] ∧ Cur B g xs s' w' ∧ w.grownBy w' (some g)
theorem cat_wt_max {m : Nat} : ∀ {l : List InstD}, (∀ y ∈ l, y.c.wt ≤ m) → (cat InstD.c l).wt ≤ m * l.length
  | [], _ => Nat.le_refl _
  | y :: r, h => by
    rw [cat_cons, Cs.wt_app, List.length_cons, Nat.mul_succ]
    have h1 := h y (by simp)
    have h2 := cat_wt_max (l := r) (fun z hz => h z (by simp [hz]))
    omega
theorem ids_wt : ∀ l : List IdD, (cat IdD.c l).wt = 0
  | [] => rfl
  | y :: r => by
    rw [cat_cons, Cs.wt_app, ids_wt r]
    rfl
theorem inst_wt (a : IdD) (b v st sq : Int) (c : CmdD) (d : List IdD) (sm : Bool) : (InstD.mk a b v st c sq d sm).c.wt ≤ c.c.wt + d.length := by
  have e1 : (InstD.mk a b v st c sq d sm).c.wt = c.set.length + (c.name.length + (c.tag.length + (c.chunks.length + (cat strC c.chunks).wt + (d.length + (cat IdD.c d).wt + 0)))) := rfl
  have e2 : c.c.wt = c.set.length + (c.name.length + (c.tag.length + (c.chunks.length + (cat strC c.chunks).wt + 0))) := rfl
  rw [e1, e2, ids_wt]
  omega
theorem deps_len (id : IdD) (c : CmdD) (xs : List InstD) : (depsL id c xs).length ≤ xs.length := by
  unfold depsL
  rw [List.length_map]
  exact List.length_filter_le _ _
theorem insts_nil : instsOkB [] = true := instsOkB_yes (instsGood_zero _)
theorem blk_cellsAt {w : World} {g e m : Nat} {L1 E L2 : List Value} (h : Blk w g e (L1 ++ (E ++ L2)).toArray) (hm : L1.length = m) : ∀ j v, E[j]? = some v → w.cell? ((⟨g, m, none⟩ : Addr).add j) = some v := fun j v hv => by
  rw [add_plain]
  exact blk_get h hm hv
theorem nodup_rot {a b c : List Nat} (h : (a ++ (b ++ c)).Nodup) : (c ++ (b ++ a)).Nodup := by
  refine List.Perm.nodup ?_ h
  refine (List.perm_append_comm).trans ?_
  refine (List.Perm.append_right a List.perm_append_comm).trans ?_
  rw [List.append_assoc]
theorem DW.mineB {B g : Nat} {xs : List UInt8} {w0 w w' : World} {bl : List (Nat × Nat × List Value)} {ow : List (Cs × List Value × List Nat)} {s : DSt} (h : DW B g xs w0 bl ow s w) {d : Cs} {cs : List Value} (hb : Below w.heap.size w w') (hm : Mine w' w.heap.size d cs) : ∃ F, DW B g xs w0 bl ((d, cs, F) :: ow) s w' :=
  h.mine (r := none) (h.cu.below hb) ⟨hb.os, hb.tape, hb.output, hb.size, fun k hk _ => hb.block k hk⟩ (.inl rfl) hm
theorem putL (x : InstD) (l : List InstD) : (fPut l x).length ≤ l.length + 1 := putA_len x l false
theorem put_wtm {m : Nat} {l : List InstD} {x : InstD} (h : ∀ y ∈ l, y.c.wt ≤ m) (hx : x.c.wt ≤ m) : ∀ y ∈ fPut l x, y.c.wt ≤ m := fun y hy => by
  rcases mem_putA.1 hy with ⟨rfl, _⟩ | ⟨h1, _⟩
  · exact hx
  · exact h y h1
theorem setCell_cong {w w' : World} {g : Nat} (h : w'.heap[g]? = w.heap[g]?) (o : Nat) (u : Value) : (w'.setCell ⟨g, o, none⟩ u).heap[g]? = (w.setCell ⟨g, o, none⟩ u).heap[g]? := by
  simp only [World.setCell, Array.getElem?_modify, h]
theorem frozen_same {w w' : World} {g o : Nat} (hb : w'.heap[g]? = w.heap[g]?) : w'.frozen? ⟨g, o, none⟩ = w.frozen? ⟨g, o, none⟩ := by
  simp only [World.frozen?, hb]
theorem size_alloc' (w : World) (o : Obj) : (w.alloc o).heap.size = w.heap.size + 1 := by simp
theorem cell_same {w w' : World} {g o : Nat} {u : Value} (h : w.cell? ⟨g, o, none⟩ = some u) (hb : w'.heap[g]? = w.heap[g]?) : w'.cell? ⟨g, o, none⟩ = some u := by
  rw [World.cell?_of_block (w := w) (w' := w') hb]
  exact h
theorem own_ids_nil {w : World} {base : Nat} : ∀ {l : List IdD} {cells : List Value} {F : List Nat}, Own w base (cat IdD.c l) cells F → F = []
  | [], cells, F, h => (Own.nil.1 (show Own w base .nil cells F from h)).2
  | y :: r, cells, F, h => by
    rw [cat_cons] at h
    obtain ⟨c1, c2, F1, F2, rfl, rfl, h1, h2⟩ := Own.app.1 h
    obtain ⟨_, rfl⟩ := IdD.openO h1
    rw [own_ids_nil h2]
    rfl
theorem inst_wt_deps (x : InstD) (d : List IdD) : (InstD.mk x.id x.bal x.vbal x.status x.cmd x.seq d x.same).c.wt + x.deps.length = x.c.wt + d.length := by
  have e1 : (InstD.mk x.id x.bal x.vbal x.status x.cmd x.seq d x.same).c.wt = x.cmd.set.length + (x.cmd.name.length + (x.cmd.tag.length + (x.cmd.chunks.length + (cat strC x.cmd.chunks).wt + (d.length + (cat IdD.c d).wt + 0)))) := rfl
  have e2 : x.c.wt = x.cmd.set.length + (x.cmd.name.length + (x.cmd.tag.length + (x.cmd.chunks.length + (cat strC x.cmd.chunks).wt + (x.deps.length + (cat IdD.c x.deps).wt + 0)))) := rfl
  rw [e1, e2, ids_wt, ids_wt]
  omega
theorem wt_set {m : Nat} {l : List InstD} {k : Nat} {y : InstD} (h : ∀ x ∈ l, x.c.wt ≤ m) (hy : y.c.wt ≤ m + 1) : ∀ x ∈ l.set k y, x.c.wt ≤ m + 1 := fun x hx => by
  rcases List.mem_or_eq_of_mem_set hx with h1 | rfl
  · exact Nat.le_succ_of_le (h x h1)
  · exact hy
theorem SmallC.mono {a b : Nat} {d : CmdD} (h : SmallC a d) (hab : a ≤ b) : SmallC b d := ⟨h.1, h.2.1, h.2.2.1, Nat.le_trans h.2.2.2.1 hab, Nat.le_trans h.2.2.2.2 (Nat.mul_le_mul_left _ hab)⟩
set_option maxRecDepth 100000 in
set_option maxHeartbeats 16000000 in
theorem l8Insts_x (B g : Nat) (xs : List UInt8) (s : DSt) (w : World) (hc : Cur B g xs s w) :
    Calls Tryz.prog 22 #[.pointer (some ⟨g, 0, none⟩)] w (InstsPost B g xs w) := by
  have hgl := hc.lt
  have HB3 := Lib.hid (fun w s hc => below_e B g 3 xs s w hc (by omega) (by omega))
  have HB4 := Lib.hid (fun w s hc => below_e B g 4 xs s w hc (by omega) (by omega))
  have HB5 := Lib.hid (fun w s hc => below_e B g 5 xs s w hc (by omega) (by omega))
  have HB7 := Lib.hid (fun w s hc => below_e B g 7 xs s w hc (by omega) (by omega))
  have HB9 := Lib.hid (fun w s hc => below_e B g 9 xs s w hc (by omega) (by omega))
  have H2 := Lib.hid (fun w s hc => once_e B g 2 xs s w hc (by omega) (by omega))
  have H4 := Lib.hid (fun w s hc => once_e B g 4 xs s w hc (by omega) (by omega))
  have H12 := Lib.hid (fun w s hc => once_e B g 12 xs s w hc (by omega) (by omega))
  have HBk := Lib.hid (fun n w s hc h1 h2 => below_e B g n xs s w hc h1 h2)
  have HP1 := Lib.hid (fun w s g2 c hc hg hr => pick_e B g xs s [-2, 600, 601] g2 3 c w hc rfl (by omega) (by omega) hg hr)
  have HP2 := Lib.hid (fun w s g2 c hc hg hr => pick_e B g xs s [-1, 60, 61] g2 3 c w hc rfl (by omega) (by omega) hg hr)
  have HID := Lib.hid (fun w s hc => l8DrawId_x B g xs s w hc)
  have HRT := Lib.hid (fun w s hc => l4Right_x B g xs s w hc)
  have D := Lib.hid (DW.start hc); clear hc
  go_enter Tryz.func22, Tryz.ntmps22
  go_wp2_with fail
  refine (HB7.out _ _ (D.out.alloc _).cu).mono ?_
  rintro e w1 ⟨n, s1, hn, rfl, hc1, hg1⟩
  have X := Lib.hid ((D.out.alloc _).call hc1 hg1)
  have HO0 := Lib.hid (show w1.ownsRow w.heap.size 38 16 (.slice (some ⟨w.heap.size, 0, none⟩) 0 0) 0 [] from row_call (by have h1 := World.ownsRow_made (base := w.heap.size) (size := 16) (e := 38) w #[] 0 (by simp) (by simp [maxLen]) rfl; simpa using h1) hg1 hgl)
  clear D hc1 hg1
  have D := Lib.hid X.out; clear X
  go_wp2
  go_loopw [3, 4] (fun ll nn wr => ∃ (j m c : Nat) (sj : DSt) (A : Option Addr) (l : List InstD) (F : List Nat), m = l.length ∧ m + j ≤ 6 ∧ instsOkB l = true ∧ (∀ y ∈ l, y.c.wt ≤ 300) ∧ ll = .slice A m c ∧ nn = .int .i64 (j : Int) ∧ DW B g xs w [] [(.sl 38 16 m (cat InstD.c l) .nil, [.slice A m c], F)] sj wr) (fun _ nn _ => (intOf nn).toNat)
  case atStart => exact ⟨n, 0, 0, s1, some ⟨w.heap.size, 0, none⟩, [], [w.heap.size], rfl, by omega, insts_nil, (fun y hy => by cases hy), rfl, rfl, D.out.add (F := [w.heap.size]) (Own.sl1.2 ⟨[], [], rfl, rfl, HO0.out, Own.nil.2 ⟨rfl, rfl⟩⟩) (List.nodup_cons.2 ⟨by simp, List.nodup_nil⟩)⟩
  case round =>
    obtain ⟨j, m, c, sj, A, l, F, hm, hmj, hok, hwt, rfl, rfl, hD⟩ := hrel
    clear D
    have D := Lib.hid hD; clear hD
    have HM := Lib.hid hm; clear hm
    have HOK := Lib.hid hok; clear hok
    have HWT := Lib.hid hwt; clear hwt
    by_cases hj : 0 < j
    · have hd1 : (0 : Int) < (j : Int) := by omega
      go_wp2_with fail
      refine (HID.out _ _ D.out.cu).mono ?_
      rintro e w2 ⟨⟨ir, iq⟩, s2, rfl, hc1, hg1⟩
      have X := Lib.hid (D.out.call hc1 hg1); clear D hc1 hg1
      have D := Lib.hid X.out; clear X
      obtain ⟨gi, hgi⟩ : ∃ x, x = w2.heap.size := ⟨_, rfl⟩
      have HGI := Lib.hid hgi; clear hgi
      go_wp2_with (first | ((with_reducible show wpList _ _ _ ({ dst := _, op := Op.store 26 _ _, type := _, pos := _, after := _, guard := _ } :: _) _ _); rw [← HGI.out]; go_must (refine wpList_store_row _ gi 26 0 [.int .i64 ir, .int .i64 iq] [] [.int .i64 0, .int .i64 0] [] _ rfl rfl agg_Id (by rw [HGI.out]; exact blk_new w2 _ _) rfl rfl rfl (by simp [Value.oneCell']) ?_; intro w3 hsb hg; have X := Lib.hid (DW.put (l := []) ((D.out.newA 26 [.int .i64 0, .int .i64 0]).cast HGI.out.symm) hg (by simpa using hsb)); clear D hsb hg; have D := Lib.hid X.out; clear X)) | fail)
      have HGI2 := Lib.hid (show w.heap.size ≤ gi from (D.out.bk (gi, 26, [.int .i64 ir, .int .i64 iq]) (by simp)).1)
      clear HGI
      obtain ⟨J, hJ⟩ : ∃ J : Act → Act → World → Prop, J = fun a0 a' w' => ∃ (gx k : Nat) (s' : DSt), a' = (Act.put (Act.put (Act.put (Act.put (Act.put (Act.put a0 (some 19) (.agg #[.int .i64 ir, .int .i64 iq])) (some 20) (.pointer (some ⟨g, 0, none⟩))) (some 21) (.int .i64 (k : Int))) (some 22) (.int .i64 ((k : Int) - 1))) (some 23) (.agg [.int .i64 ir, .int .i64 iq, .int .i64 ((k : Int) - 1), .int .i64 (-1), .int .i64 0, .int .i64 0, .int .i64 0, .int .i64 0, .string (bs []), .string (bs []), .string (bs []), .int .i64 0, .slice none 0 0, .int .i64 0, .slice none 0 0, .bool false].toArray)) (some 6) (.pointer (some ⟨gx, 0, none⟩))) ∧ k < 9 ∧ DW B g xs w [(gx, 38, [.int .i64 ir, .int .i64 iq, .int .i64 ((k : Int) - 1), .int .i64 (-1), .int .i64 0, .int .i64 0, .int .i64 0, .int .i64 0, .string (bs []), .string (bs []), .string (bs []), .int .i64 0, .slice none 0 0, .int .i64 0, .slice none 0 0, .bool false]), (gi, 26, [.int .i64 ir, .int .i64 iq])] [(.sl 38 16 m (cat InstD.c l) .nil, [.slice A m c], F)] s' w' := ⟨_, rfl⟩
      have HJ := Lib.hid hJ; clear hJ
      refine wp_join J ?_ ?_
      · refine wp_region_m (fun v => Blk v gi 26 #[.int .i64 ir, .int .i64 iq]) 6 (.rd 0 (.rd 1 (.two 2 5 (.rd 3 (.rd 4 (.act 5 .leaf))) (.act 2 (.rd 3 (.rd 4 .leaf)))))) [6] (by kernel_rfl) (by kernel_rfl) (DW.b0 (l := []) D.out.drew) ?_
        refine wpM_read rfl rfl (.agg #[.int .i64 ir, .int .i64 iq]) (fun w' hw' => run_loadN (cs := [.int .i64 ir, .int .i64 iq]) rfl rfl agg_Id (blk_cells hw')) ?_
        refine wpM_bare rfl (by kernel_rfl) rfl rfl ?_; go_wp2; refine ⟨rfl, ?_⟩
        have X := Lib.hid D.out.drew; clear D
        have D := Lib.hid X.out; clear X
        generalize w3.drew = w4 at D ⊢
        refine wpM_two rfl rfl ?_ ?_
        · skip
          go_wp2_with fail
          refine (HB9.out _ _ D.out.cu).mono ?_
          rintro e w5 ⟨k, s3, hk, rfl, hc1, hg1⟩
          have X := Lib.hid (D.out.call hc1 hg1); clear D hc1 hg1
          have D := Lib.hid X.out; clear X
          go_wp2_with fail
          refine ⟨DW.b0 (l := []) D.out, ?_⟩
          refine wpM_bare rfl (by kernel_rfl) rfl rfl ?_; go_wp2; refine ⟨rfl, ?_⟩
          refine wpM_build rfl rfl rfl [.int .i64 ir, .int .i64 iq, .int .i64 ((k : Int) - 1), .int .i64 (-1), .int .i64 0, .int .i64 0, .int .i64 0, .int .i64 0, .string (bs []), .string (bs []), .string (bs []), .int .i64 0, .slice none 0 0, .int .i64 0, .slice none 0 0, .bool false].toArray (by kernel_rfl) ?_
          refine wpM_act rfl ?_
          obtain ⟨gx, hgx⟩ : ∃ x, x = w5.heap.size := ⟨_, rfl⟩
          have X := Lib.hid ((D.out.newA 38 [.int .i64 0, .int .i64 0, .int .i64 0, .int .i64 0, .int .i64 0, .int .i64 0, .int .i64 0, .int .i64 0, .string (bs []), .string (bs []), .string (bs []), .int .i64 0, .slice none 0 0, .int .i64 0, .slice none 0 0, .bool false]).cast hgx.symm); clear D
          have D := Lib.hid X.out; clear X
          go_wp2_with fail
          rw [← hgx]
          clear hgx
          refine ⟨DW.b0 (l := [_]) D.out, ?_⟩
          refine wpM_nil ?_
          simp only [pickOps, List.getElem?_toArray, List.getElem?_cons_succ, List.getElem?_cons_zero]
          go_wp2_with (first | ((with_reducible show wpList _ _ _ ({ dst := _, op := Op.store 38 _ _, type := _, pos := _, after := _, guard := _ } :: _) _ _); refine wpList_store_row _ gx 38 0 [.int .i64 ir, .int .i64 iq, .int .i64 ((k : Int) - 1), .int .i64 (-1), .int .i64 0, .int .i64 0, .int .i64 0, .int .i64 0, .string (bs []), .string (bs []), .string (bs []), .int .i64 0, .slice none 0 0, .int .i64 0, .slice none 0 0, .bool false] [] [.int .i64 0, .int .i64 0, .int .i64 0, .int .i64 0, .int .i64 0, .int .i64 0, .int .i64 0, .int .i64 0, .string (bs []), .string (bs []), .string (bs []), .int .i64 0, .slice none 0 0, .int .i64 0, .slice none 0 0, .bool false] [] _ rfl rfl agg_Inst (DW.b0 (l := []) D.out) rfl rfl rfl (by simp [Value.oneCell']) ?_; intro w6 hsb hg) | fail)
          have X := Lib.hid (D.out.put (l := []) hg (by simpa using hsb)); clear D hsb hg
          refine ⟨trivial, rfl, ?_⟩
          rw [HJ.out]
          exact ⟨gx, k, s3, rfl, hk, X.out⟩
        · skip
          obtain ⟨gx, hgx⟩ : ∃ x, x = w4.heap.size := ⟨_, rfl⟩
          have X := Lib.hid ((D.out.newA 38 [.int .i64 0, .int .i64 0, .int .i64 0, .int .i64 0, .int .i64 0, .int .i64 0, .int .i64 0, .int .i64 0, .string (bs []), .string (bs []), .string (bs []), .int .i64 0, .slice none 0 0, .int .i64 0, .slice none 0 0, .bool false]).cast hgx.symm); clear D
          have D := Lib.hid X.out; clear X
          go_wp2_with fail
          rw [← hgx]
          clear hgx
          refine ⟨DW.b0 (l := [_]) D.out, ?_⟩
          refine wpM_act rfl ?_
          go_wp2_with fail
          refine (HB9.out _ _ D.out.cu).mono ?_
          rintro e w5 ⟨k, s3, hk, rfl, hc1, hg1⟩
          have X := Lib.hid (D.out.call hc1 hg1); clear D hc1 hg1
          have D := Lib.hid X.out; clear X
          go_wp2_with fail
          refine ⟨DW.b0 (l := [_]) D.out, ?_⟩
          refine wpM_bare rfl (by kernel_rfl) rfl rfl ?_; go_wp2; refine ⟨rfl, ?_⟩
          refine wpM_build rfl rfl rfl [.int .i64 ir, .int .i64 iq, .int .i64 ((k : Int) - 1), .int .i64 (-1), .int .i64 0, .int .i64 0, .int .i64 0, .int .i64 0, .string (bs []), .string (bs []), .string (bs []), .int .i64 0, .slice none 0 0, .int .i64 0, .slice none 0 0, .bool false].toArray (by kernel_rfl) ?_
          refine wpM_nil ?_
          simp only [pickOps, List.getElem?_toArray, List.getElem?_cons_succ, List.getElem?_cons_zero]
          go_wp2_with (first | ((with_reducible show wpList _ _ _ ({ dst := _, op := Op.store 38 _ _, type := _, pos := _, after := _, guard := _ } :: _) _ _); refine wpList_store_row _ gx 38 0 [.int .i64 ir, .int .i64 iq, .int .i64 ((k : Int) - 1), .int .i64 (-1), .int .i64 0, .int .i64 0, .int .i64 0, .int .i64 0, .string (bs []), .string (bs []), .string (bs []), .int .i64 0, .slice none 0 0, .int .i64 0, .slice none 0 0, .bool false] [] [.int .i64 0, .int .i64 0, .int .i64 0, .int .i64 0, .int .i64 0, .int .i64 0, .int .i64 0, .int .i64 0, .string (bs []), .string (bs []), .string (bs []), .int .i64 0, .slice none 0 0, .int .i64 0, .slice none 0 0, .bool false] [] _ rfl rfl agg_Inst (DW.b0 (l := []) D.out) rfl rfl rfl (by simp [Value.oneCell']) ?_; intro w6 hsb hg) | fail)
          have X := Lib.hid (D.out.put (l := []) hg (by simpa using hsb)); clear D hsb hg
          refine ⟨trivial, rfl, ?_⟩
          rw [HJ.out]
          exact ⟨gx, k, s3, rfl, hk, X.out⟩
      intro a' w6 hj2; rw [HJ.out] at hj2; clear HJ J; obtain ⟨gx, k, s3, rfl, hk, hD⟩ := hj2
      simp only [Act.put, List.setIfInBounds_toArray, List.set_cons_succ, List.set_cons_zero]
      clear D
      have D := Lib.hid hD; clear hD
      obtain ⟨b, hb⟩ : ∃ b : Int, b = (k : Int) - 1 := ⟨_, rfl⟩
      rw [← hb] at D ⊢
      have hkb : b + 1 = (k : Int) := by omega
      have hb8 : b ≤ 8 := by omega
      clear hb
      have HKB := Lib.hid hkb; clear hkb
      have HW := Lib.hid (show m + (cat InstD.c l).wt ≤ 1048576 from by have h1 := cat_wt_max HWT.out; have h2 := HM.out; omega)
      have c2 := blk_cell0 (DW.b0 (l := []) D.out) 2 rfl
      by_cases hb0 : 0 ≤ b
      · have hk1 : 1 ≤ k := by have := HKB.out; omega
        go_wp2_with fail
        refine (H4.out _ _ D.out.cu).mono ?_
        rintro e w7 ⟨bb, s4, rfl, hc1, hg1⟩
        have X := Lib.hid (D.out.call hc1 hg1); clear D hc1 hg1
        have D := Lib.hid X.out; clear X
        clear c2
        cases bb with
        | true =>
          have HXW := Lib.hid (show (InstD.mk ⟨ir, iq⟩ b (-1) 0 zeroCmd 0 [] false).c.wt ≤ 300 from by have h1 := inst_wt ⟨ir, iq⟩ b (-1) 0 0 zeroCmd [] false; have h2 : zeroCmd.c.wt = 0 := rfl; simp only [List.length_nil] at h1; omega)
          have X := Lib.hid (D.out.own [(.sl 38 16 m (cat InstD.c l) .nil, [.slice A m c], F), ((InstD.mk ⟨ir, iq⟩ b (-1) 0 zeroCmd 0 [] false).c, [.int .i64 ir, .int .i64 iq, .int .i64 b, .int .i64 (-1), .int .i64 0, .int .i64 0, .int .i64 0, .int .i64 0, .string (bs []), .string (bs []), .string (bs []), .int .i64 0, .slice none 0 0, .int .i64 0, .slice none 0 0, .bool false], [])] (fun p hp => by simp only [List.mem_cons, List.not_mem_nil, or_false] at hp; rcases hp with rfl | rfl; (· exact D.out.o0 (l := [])); (· exact InstD.shutO (x := (InstD.mk ⟨ir, iq⟩ b (-1) 0 zeroCmd 0 [] false)) (F0 := []) (F1 := []) (Own.strs_mk rfl ⟨by simp [zeroCmd], .inl ⟨rfl, rfl⟩⟩) (Own.sl1.2 ⟨[], [], rfl, rfl, ⟨rfl, .inl ⟨rfl, rfl⟩⟩, Own.nil.2 ⟨rfl, rfl⟩⟩))) (fun b hb => by simpa using hb) (by have h1 := D.out.ownNd; simpa using h1)); clear D
          have D := Lib.hid X.out; clear X
          go_wp2_with (first | ((with_reducible show wpList _ _ _ ({ dst := _, op := Op.load 38 _, type := _, pos := _, after := _, guard := _ } :: _) _ _); refine wpList_load_row _ ⟨gx, 0, none⟩ rfl [.int .i64 ir, .int .i64 iq, .int .i64 b, .int .i64 (-1), .int .i64 0, .int .i64 0, .int .i64 0, .int .i64 0, .string (bs []), .string (bs []), .string (bs []), .int .i64 0, .slice none 0 0, .int .i64 0, .slice none 0 0, .bool false] agg_Inst rfl (blk_cells (DW.b0 (l := []) D.out)) ?_) | fail)
          refine (sInstOk_any (InstD.mk ⟨ir, iq⟩ b (-1) 0 zeroCmd 0 [] false) [.int .i64 ir, .int .i64 iq, .int .i64 b, .int .i64 (-1), .int .i64 0, .int .i64 0, .int .i64 0, .int .i64 0, .string (bs []), .string (bs []), .string (bs []), .int .i64 0, .slice none 0 0, .int .i64 0, .slice none 0 0, .bool false] _ (by have := HXW.out; omega) (D.out.o0 (l := [_])).repAny).mono ?_
          rintro e w13 ⟨rfl, hb⟩
          have X := Lib.hid (D.out.below hb); clear D
          have D := Lib.hid X.out; clear X; clear hb
          cases hx : instOkB (InstD.mk ⟨ir, iq⟩ b (-1) 0 zeroCmd 0 [] false) with
          | false =>
            have D2 := Lib.hid (D.out.forget.own [(.sl 38 16 m (cat InstD.c l) .nil, [.slice A m c], F)] (fun p hp => by rcases List.mem_singleton.1 hp with rfl; exact D.out.o0 (l := [])) (fun b hb => by have h1 : b ∈ F := (by simpa using hb); simp [h1]) (by have h1 := (List.nodup_append.1 (show (F ++ ([] ++ [])).Nodup from D.out.ownNd)).1; simpa using h1))
            clear D
            go_wp2
            exact ⟨⟨j - 1, m, c, _, A, l, F, HM.out, by omega, HOK.out, HWT.out, rfl, by go_num, D2.out⟩, by simp only [intOf]; omega⟩
          | true =>
            go_wp2_with (first | ((with_reducible show wpList _ _ _ ({ dst := _, op := Op.load 38 _, type := _, pos := _, after := _, guard := _ } :: _) _ _); refine wpList_load_row _ ⟨gx, 0, none⟩ rfl [.int .i64 ir, .int .i64 iq, .int .i64 b, .int .i64 (-1), .int .i64 0, .int .i64 0, .int .i64 0, .int .i64 0, .string (bs []), .string (bs []), .string (bs []), .int .i64 0, .slice none 0 0, .int .i64 0, .slice none 0 0, .bool false] agg_Inst rfl (blk_cells (DW.b0 (l := []) D.out)) ?_) | fail)
            refine (l8PutM_any l (InstD.mk ⟨ir, iq⟩ b (-1) 0 zeroCmd 0 [] false) A w.heap.size m c [.int .i64 ir, .int .i64 iq, .int .i64 b, .int .i64 (-1), .int .i64 0, .int .i64 0, .int .i64 0, .int .i64 0, .string (bs []), .string (bs []), .string (bs []), .int .i64 0, .slice none 0 0, .int .i64 0, .slice none 0 0, .bool false] [] _ HM.out (by omega) D.out.gr.size F (D.out.o0 (l := [])) (D.out.o0 (l := [_])) (by have h1 := D.out.ownNd; simpa using h1)).mono ?_
            rintro e w14 ⟨A3, m3, c3, rfl, hm3, ⟨F3, hn3, ho3⟩, hb⟩
            have D3 := Lib.hid ((D.out.bare.below hb).add ho3 hn3)
            have HM3 := Lib.hid hm3; clear hm3
            clear D hb ho3 hn3
            have HX := Lib.hid hx; clear hx
            go_wp2
            exact ⟨⟨j - 1, m3, c3, _, A3, fPut l (InstD.mk ⟨ir, iq⟩ b (-1) 0 zeroCmd 0 [] false), F3, HM3.out, by have h1 := putL (InstD.mk ⟨ir, iq⟩ b (-1) 0 zeroCmd 0 [] false) l; have h2 := HM.out; have h3 := HM3.out; omega, by rw [put_ok HOK.out]; exact HX.out, put_wtm HWT.out HXW.out, rfl, by go_num, D3.out⟩, by simp only [intOf]; omega⟩
        | false =>
          have c2 := blk_cell0 (DW.b0 (l := []) D.out) 2 rfl
          go_wp2_with fail
          rw [HKB.out]
          refine (HBk.out k _ _ D.out.cu hk1 (by omega)).mono ?_
          rintro e w8 ⟨vb, s5, hvb, rfl, hc1, hg1⟩
          have X := Lib.hid (D.out.call hc1 hg1); clear D hc1 hg1
          have D := Lib.hid X.out; clear X
          clear c2
          have c3 := blk_cell0 (DW.b0 (l := []) D.out) 3 rfl
          have f3 := (DW.b0 (l := []) D.out).frozen 3
          have X := Lib.hid (show DW B g xs w [(gx, 38, [.int .i64 ir, .int .i64 iq, .int .i64 b, .int .i64 (vb : Int), .int .i64 0, .int .i64 0, .int .i64 0, .int .i64 0, .string (bs []), .string (bs []), .string (bs []), .int .i64 0, .slice none 0 0, .int .i64 0, .slice none 0 0, .bool false]), (gi, 26, [.int .i64 ir, .int .i64 iq])] [(.sl 38 16 m (cat InstD.c l) .nil, [.slice A m c], F)] s5 (w8.setCell ⟨gx, 3, none⟩ (.int .i64 (vb : Int))) from D.out.set (l := []) 3 (.int .i64 (vb : Int))); clear D
          have D := Lib.hid X.out; clear X
          go_wp2_with fail
          refine (HB3.out _ _ D.out.cu).mono ?_
          rintro e w9 ⟨st, s6, hst, rfl, hc1, hg1⟩
          have X := Lib.hid (D.out.call hc1 hg1); clear D hc1 hg1
          have D := Lib.hid X.out; clear X
          clear c3 f3
          obtain ⟨sv, hsv⟩ : ∃ v : Int, v = 1 + (st : Int) := ⟨_, rfl⟩
          have HSV := Lib.hid hsv; clear hsv
          have c4 := blk_cell0 (DW.b0 (l := []) D.out) 4 rfl
          have f4 := (DW.b0 (l := []) D.out).frozen 4
          have X := Lib.hid (show DW B g xs w [(gx, 38, [.int .i64 ir, .int .i64 iq, .int .i64 b, .int .i64 (vb : Int), .int .i64 (1 + (st : Int)), .int .i64 0, .int .i64 0, .int .i64 0, .string (bs []), .string (bs []), .string (bs []), .int .i64 0, .slice none 0 0, .int .i64 0, .slice none 0 0, .bool false]), (gi, 26, [.int .i64 ir, .int .i64 iq])] [(.sl 38 16 m (cat InstD.c l) .nil, [.slice A m c], F)] s6 (w9.setCell ⟨gx, 4, none⟩ (.int .i64 (1 + (st : Int)))) from D.out.set (l := []) 4 (.int .i64 (1 + (st : Int)))); clear D
          have D := Lib.hid X.out; clear X
          go_wp2_with fail
          rw [← HSV.out] at D ⊢
          refine (HRT.out _ _ D.out.cu).mono ?_
          rintro e w10 ⟨⟨d, cs, s7, rfl, hsm, hm, hc1, hg1⟩⟩
          have hcw := (SmallC.mono hsm (by omega : 4 ≤ 5)).wt
          clear hsm
          obtain ⟨Fc, hD⟩ := D.out.mine hc1 hg1 (.inr rfl) hm
          clear D hc1 hg1 hm c4 f4
          have D := Lib.hid hD; clear hD
          obtain ⟨A1, k1, F1, rfl, rfl, hst1⟩ := CmdD.openO (D.out.o0 (l := []))
          clear hst1
          go_wp2_with (first | ((with_reducible show wpList _ _ _ ({ dst := _, op := Op.store 29 _ _, type := _, pos := _, after := _, guard := _ } :: _) _ _); go_must (refine wpList_store_row _ gx 38 5 [.int .i64 d.kind, .int .i64 d.client, .int .i64 d.no, .string (bs d.set), .string (bs d.name), .string (bs d.tag), .int .i64 d.n, .slice A1 d.chunks.length k1] [.int .i64 ir, .int .i64 iq, .int .i64 b, .int .i64 (vb : Int), .int .i64 sv] [.int .i64 0, .int .i64 0, .int .i64 0, .string (bs []), .string (bs []), .string (bs []), .int .i64 0, .slice none 0 0] [.int .i64 0, .slice none 0 0, .bool false] _ rfl rfl agg_Cmd (DW.b0 (l := []) D.out) rfl rfl rfl (by simp [Value.oneCell']) ?_; intro w11 hsb hg; have X := Lib.hid (show DW B g xs w [(gx, 38, [.int .i64 ir, .int .i64 iq, .int .i64 b, .int .i64 (vb : Int), .int .i64 sv, .int .i64 d.kind, .int .i64 d.client, .int .i64 d.no, .string (bs d.set), .string (bs d.name), .string (bs d.tag), .int .i64 d.n, .slice A1 d.chunks.length k1, .int .i64 0, .slice none 0 0, .bool false]), (gi, 26, [.int .i64 ir, .int .i64 iq])] [(d.c, [.int .i64 d.kind, .int .i64 d.client, .int .i64 d.no, .string (bs d.set), .string (bs d.name), .string (bs d.tag), .int .i64 d.n, .slice A1 d.chunks.length k1], Fc), (.sl 38 16 m (cat InstD.c l) .nil, [.slice A m c], F)] s7 w11 from D.out.put (l := []) hg (by simpa using hsb)); clear D hsb hg; have D := Lib.hid X.out; clear X)) | ((with_reducible show wpList _ _ _ ({ dst := _, op := Op.load 26 _, type := _, pos := _, after := _, guard := _ } :: _) _ _); refine wpList_load_row _ ⟨gi, 0, none⟩ rfl [.int .i64 ir, .int .i64 iq] agg_Id rfl (blk_cells (DW.b0 (l := [_]) D.out)) ?_) | ((with_reducible show wpList _ _ _ ({ dst := _, op := Op.load 29 _, type := _, pos := _, after := _, guard := _ } :: _) _ _); refine wpList_load_row _ ⟨gx, 5, none⟩ rfl [.int .i64 d.kind, .int .i64 d.client, .int .i64 d.no, .string (bs d.set), .string (bs d.name), .string (bs d.tag), .int .i64 d.n, .slice A1 d.chunks.length k1] agg_Cmd rfl (blk_cellsAt (L1 := [.int .i64 ir, .int .i64 iq, .int .i64 b, .int .i64 (vb : Int), .int .i64 sv]) (L2 := [.int .i64 0, .slice none 0 0, .bool false]) (DW.b0 (l := []) D.out) rfl) ?_) | fail)
          have hdl := deps_len ⟨ir, iq⟩ d l
          refine (l8Attrs_any l ⟨ir, iq⟩ d A m c [.int .i64 ir, .int .i64 iq] [.int .i64 d.kind, .int .i64 d.client, .int .i64 d.no, .string (bs d.set), .string (bs d.name), .string (bs d.tag), .int .i64 d.n, .slice A1 d.chunks.length k1] _ HM.out HW.out (by omega) HOK.out (D.out.o0 (l := [_])).repAny (IdD.shut (x := ⟨ir, iq⟩)) (D.out.o0 (l := [])).repAny).mono ?_
          rintro e w12 ⟨A2, k2, rfl, hown, hb⟩
          generalize depsL ⟨ir, iq⟩ d l = ds at hown hdl ⊢
          obtain ⟨sq, hsq⟩ : ∃ q : Int, q = seqL ⟨ir, iq⟩ d l + 1 := ⟨_, rfl⟩
          rw [← hsq]; clear hsq
          obtain ⟨Fd, hD⟩ := D.out.mineB hb (mine_ids hown rfl)
          clear D hb hown
          have D := Lib.hid hD; clear hD
          have c13 := blk_cell0 (DW.b0 (l := []) D.out) 13 rfl
          have f13 := (DW.b0 (l := []) D.out).frozen 13
          have X := Lib.hid (show DW B g xs w [(gx, 38, [.int .i64 ir, .int .i64 iq, .int .i64 b, .int .i64 (vb : Int), .int .i64 sv, .int .i64 d.kind, .int .i64 d.client, .int .i64 d.no, .string (bs d.set), .string (bs d.name), .string (bs d.tag), .int .i64 d.n, .slice A1 d.chunks.length k1, .int .i64 sq, .slice none 0 0, .bool false]), (gi, 26, [.int .i64 ir, .int .i64 iq])] [(.sl 26 2 ds.length (cat IdD.c ds) .nil, [.slice A2 ds.length k2], Fd), (d.c, [.int .i64 d.kind, .int .i64 d.client, .int .i64 d.no, .string (bs d.set), .string (bs d.name), .string (bs d.tag), .int .i64 d.n, .slice A1 d.chunks.length k1], Fc), (.sl 38 16 m (cat InstD.c l) .nil, [.slice A m c], F)] s7 (w12.setCell ⟨gx, 13, none⟩ (.int .i64 sq)) from D.out.set (l := []) 13 (.int .i64 sq)); clear D
          have D := Lib.hid X.out; clear X
          have c14 := blk_cell0 (DW.b0 (l := []) D.out) 14 rfl
          have f14 := (DW.b0 (l := []) D.out).frozen 14
          have X := Lib.hid (show DW B g xs w [(gx, 38, [.int .i64 ir, .int .i64 iq, .int .i64 b, .int .i64 (vb : Int), .int .i64 sv, .int .i64 d.kind, .int .i64 d.client, .int .i64 d.no, .string (bs d.set), .string (bs d.name), .string (bs d.tag), .int .i64 d.n, .slice A1 d.chunks.length k1, .int .i64 sq, .slice A2 ds.length k2, .bool false]), (gi, 26, [.int .i64 ir, .int .i64 iq])] [(.sl 26 2 ds.length (cat IdD.c ds) .nil, [.slice A2 ds.length k2], Fd), (d.c, [.int .i64 d.kind, .int .i64 d.client, .int .i64 d.no, .string (bs d.set), .string (bs d.name), .string (bs d.tag), .int .i64 d.n, .slice A1 d.chunks.length k1], Fc), (.sl 38 16 m (cat InstD.c l) .nil, [.slice A m c], F)] s7 ((w12.setCell ⟨gx, 13, none⟩ (.int .i64 sq)).setCell ⟨gx, 14, none⟩ (.slice A2 ds.length k2)) from D.out.set (l := []) 14 (.slice A2 ds.length k2)); clear D
          have D := Lib.hid X.out; clear X
          go_wp2_with fail
          refine (H2.out _ _ D.out.cu).mono ?_
          rintro e w15 ⟨sm, s8, rfl, hc1, hg1⟩
          have X := Lib.hid (D.out.call hc1 hg1); clear D hc1 hg1
          have D := Lib.hid X.out; clear X
          clear c13 f13 c14 f14
          have c15 := blk_cell0 (DW.b0 (l := []) D.out) 15 rfl
          have f15 := (DW.b0 (l := []) D.out).frozen 15
          have X := Lib.hid (show DW B g xs w [(gx, 38, [.int .i64 ir, .int .i64 iq, .int .i64 b, .int .i64 (vb : Int), .int .i64 sv, .int .i64 d.kind, .int .i64 d.client, .int .i64 d.no, .string (bs d.set), .string (bs d.name), .string (bs d.tag), .int .i64 d.n, .slice A1 d.chunks.length k1, .int .i64 sq, .slice A2 ds.length k2, .bool sm]), (gi, 26, [.int .i64 ir, .int .i64 iq])] [(.sl 26 2 ds.length (cat IdD.c ds) .nil, [.slice A2 ds.length k2], Fd), (d.c, [.int .i64 d.kind, .int .i64 d.client, .int .i64 d.no, .string (bs d.set), .string (bs d.name), .string (bs d.tag), .int .i64 d.n, .slice A1 d.chunks.length k1], Fc), (.sl 38 16 m (cat InstD.c l) .nil, [.slice A m c], F)] s8 (w15.setCell ⟨gx, 15, none⟩ (.bool sm)) from D.out.set (l := []) 15 (.bool sm)); clear D
          have D := Lib.hid X.out; clear X
          have HXW := Lib.hid (show (InstD.mk ⟨ir, iq⟩ b (vb : Int) sv d sq ds sm).c.wt ≤ 300 from by have h1 := inst_wt ⟨ir, iq⟩ b (vb : Int) sv sq d ds sm; have h2 := HM.out; omega)
          obtain ⟨_, _, _, e1, e2, hst1⟩ := CmdD.openO (D.out.o0 (l := [_]))
          injection e1 with _ e1
          injection e1 with _ e1
          injection e1 with _ e1
          injection e1 with _ e1
          injection e1 with _ e1
          injection e1 with _ e1
          injection e1 with _ e1
          injection e1 with e1 _
          injection e1 with e3 _ e4
          subst e2 e3 e4
          have HST := Lib.hid hst1; clear hst1
          have X := Lib.hid (D.out.own [(.sl 38 16 m (cat InstD.c l) .nil, [.slice A m c], F), ((InstD.mk ⟨ir, iq⟩ b (vb : Int) sv d sq ds sm).c, [.int .i64 ir, .int .i64 iq, .int .i64 b, .int .i64 (vb : Int), .int .i64 sv, .int .i64 d.kind, .int .i64 d.client, .int .i64 d.no, .string (bs d.set), .string (bs d.name), .string (bs d.tag), .int .i64 d.n, .slice A1 d.chunks.length k1, .int .i64 sq, .slice A2 ds.length k2, .bool sm], Fc ++ Fd)] (fun p hp => by simp only [List.mem_cons, List.not_mem_nil, or_false] at hp; rcases hp with rfl | rfl; (· exact D.out.o0 (l := [_, _])); (· exact InstD.shutO (x := (InstD.mk ⟨ir, iq⟩ b (vb : Int) sv d sq ds sm)) HST.out (D.out.o0 (l := [])))) (fun b hb => by simp only [List.map_cons, List.map_nil, List.flatten_cons, List.flatten_nil, List.append_nil, List.mem_append] at hb ⊢; rcases hb with hb | hb | hb <;> simp [hb]) (by have h1 := nodup_rot (by have h1 := D.out.ownNd; simpa using h1 : (Fd ++ (Fc ++ F)).Nodup); simpa using h1)); clear D
          have D := Lib.hid X.out; clear X
          go_wp2_with (first | ((with_reducible show wpList _ _ _ ({ dst := _, op := Op.load 38 _, type := _, pos := _, after := _, guard := _ } :: _) _ _); refine wpList_load_row _ ⟨gx, 0, none⟩ rfl [.int .i64 ir, .int .i64 iq, .int .i64 b, .int .i64 (vb : Int), .int .i64 sv, .int .i64 d.kind, .int .i64 d.client, .int .i64 d.no, .string (bs d.set), .string (bs d.name), .string (bs d.tag), .int .i64 d.n, .slice A1 d.chunks.length k1, .int .i64 sq, .slice A2 ds.length k2, .bool sm] agg_Inst rfl (blk_cells (DW.b0 (l := []) D.out)) ?_) | fail)
          refine (sInstOk_any (InstD.mk ⟨ir, iq⟩ b (vb : Int) sv d sq ds sm) [.int .i64 ir, .int .i64 iq, .int .i64 b, .int .i64 (vb : Int), .int .i64 sv, .int .i64 d.kind, .int .i64 d.client, .int .i64 d.no, .string (bs d.set), .string (bs d.name), .string (bs d.tag), .int .i64 d.n, .slice A1 d.chunks.length k1, .int .i64 sq, .slice A2 ds.length k2, .bool sm] _ (by have := HXW.out; omega) (D.out.o0 (l := [_])).repAny).mono ?_
          rintro e w13 ⟨rfl, hb⟩
          have X := Lib.hid (D.out.below hb); clear D
          have D := Lib.hid X.out; clear X; clear hb
          cases hx : instOkB (InstD.mk ⟨ir, iq⟩ b (vb : Int) sv d sq ds sm) with
          | false =>
            have D2 := Lib.hid (D.out.forget.own [(.sl 38 16 m (cat InstD.c l) .nil, [.slice A m c], F)] (fun p hp => by rcases List.mem_singleton.1 hp with rfl; exact D.out.o0 (l := [])) (fun b hb => by have h1 : b ∈ F := (by simpa using hb); simp [h1]) (by have h1 := (List.nodup_append.1 (show (F ++ ((Fc ++ Fd) ++ [])).Nodup from D.out.ownNd)).1; simpa using h1))
            clear D
            go_wp2
            exact ⟨⟨j - 1, m, c, _, A, l, F, HM.out, by omega, HOK.out, HWT.out, rfl, by go_num, D2.out⟩, by simp only [intOf]; omega⟩
          | true =>
            go_wp2_with (first | ((with_reducible show wpList _ _ _ ({ dst := _, op := Op.load 38 _, type := _, pos := _, after := _, guard := _ } :: _) _ _); refine wpList_load_row _ ⟨gx, 0, none⟩ rfl [.int .i64 ir, .int .i64 iq, .int .i64 b, .int .i64 (vb : Int), .int .i64 sv, .int .i64 d.kind, .int .i64 d.client, .int .i64 d.no, .string (bs d.set), .string (bs d.name), .string (bs d.tag), .int .i64 d.n, .slice A1 d.chunks.length k1, .int .i64 sq, .slice A2 ds.length k2, .bool sm] agg_Inst rfl (blk_cells (DW.b0 (l := []) D.out)) ?_) | fail)
            refine (l8PutM_any l (InstD.mk ⟨ir, iq⟩ b (vb : Int) sv d sq ds sm) A w.heap.size m c [.int .i64 ir, .int .i64 iq, .int .i64 b, .int .i64 (vb : Int), .int .i64 sv, .int .i64 d.kind, .int .i64 d.client, .int .i64 d.no, .string (bs d.set), .string (bs d.name), .string (bs d.tag), .int .i64 d.n, .slice A1 d.chunks.length k1, .int .i64 sq, .slice A2 ds.length k2, .bool sm] (Fc ++ Fd) _ HM.out (by omega) D.out.gr.size F (D.out.o0 (l := [])) (D.out.o0 (l := [_])) (by have h1 := D.out.ownNd; simpa using h1)).mono ?_
            rintro e w14 ⟨A3, m3, c3, rfl, hm3, ⟨F3, hn3, ho3⟩, hb⟩
            have D3 := Lib.hid ((D.out.bare.below hb).add ho3 hn3)
            have HM3 := Lib.hid hm3; clear hm3
            clear D hb ho3 hn3
            have HX := Lib.hid hx; clear hx
            go_wp2
            exact ⟨⟨j - 1, m3, c3, _, A3, fPut l (InstD.mk ⟨ir, iq⟩ b (vb : Int) sv d sq ds sm), F3, HM3.out, by have h1 := putL (InstD.mk ⟨ir, iq⟩ b (vb : Int) sv d sq ds sm) l; have h2 := HM.out; have h3 := HM3.out; omega, by rw [put_ok HOK.out]; exact HX.out, put_wtm HWT.out HXW.out, rfl, by go_num, D3.out⟩, by simp only [intOf]; omega⟩
      · skip
        have HXW := Lib.hid (show (InstD.mk ⟨ir, iq⟩ b (-1) 0 zeroCmd 0 [] false).c.wt ≤ 300 from by have h1 := inst_wt ⟨ir, iq⟩ b (-1) 0 0 zeroCmd [] false; have h2 : zeroCmd.c.wt = 0 := rfl; simp only [List.length_nil] at h1; omega)
        have X := Lib.hid (D.out.own [(.sl 38 16 m (cat InstD.c l) .nil, [.slice A m c], F), ((InstD.mk ⟨ir, iq⟩ b (-1) 0 zeroCmd 0 [] false).c, [.int .i64 ir, .int .i64 iq, .int .i64 b, .int .i64 (-1), .int .i64 0, .int .i64 0, .int .i64 0, .int .i64 0, .string (bs []), .string (bs []), .string (bs []), .int .i64 0, .slice none 0 0, .int .i64 0, .slice none 0 0, .bool false], [])] (fun p hp => by simp only [List.mem_cons, List.not_mem_nil, or_false] at hp; rcases hp with rfl | rfl; (· exact D.out.o0 (l := [])); (· exact InstD.shutO (x := (InstD.mk ⟨ir, iq⟩ b (-1) 0 zeroCmd 0 [] false)) (F0 := []) (F1 := []) (Own.strs_mk rfl ⟨by simp [zeroCmd], .inl ⟨rfl, rfl⟩⟩) (Own.sl1.2 ⟨[], [], rfl, rfl, ⟨rfl, .inl ⟨rfl, rfl⟩⟩, Own.nil.2 ⟨rfl, rfl⟩⟩))) (fun b hb => by simpa using hb) (by have h1 := D.out.ownNd; simpa using h1)); clear D
        have D := Lib.hid X.out; clear X
        go_wp2_with (first | ((with_reducible show wpList _ _ _ ({ dst := _, op := Op.load 38 _, type := _, pos := _, after := _, guard := _ } :: _) _ _); refine wpList_load_row _ ⟨gx, 0, none⟩ rfl [.int .i64 ir, .int .i64 iq, .int .i64 b, .int .i64 (-1), .int .i64 0, .int .i64 0, .int .i64 0, .int .i64 0, .string (bs []), .string (bs []), .string (bs []), .int .i64 0, .slice none 0 0, .int .i64 0, .slice none 0 0, .bool false] agg_Inst rfl (blk_cells (DW.b0 (l := []) D.out)) ?_) | fail)
        refine (sInstOk_any (InstD.mk ⟨ir, iq⟩ b (-1) 0 zeroCmd 0 [] false) [.int .i64 ir, .int .i64 iq, .int .i64 b, .int .i64 (-1), .int .i64 0, .int .i64 0, .int .i64 0, .int .i64 0, .string (bs []), .string (bs []), .string (bs []), .int .i64 0, .slice none 0 0, .int .i64 0, .slice none 0 0, .bool false] _ (by have := HXW.out; omega) (D.out.o0 (l := [_])).repAny).mono ?_
        rintro e w13 ⟨rfl, hb⟩
        have X := Lib.hid (D.out.below hb); clear D
        have D := Lib.hid X.out; clear X; clear hb
        cases hx : instOkB (InstD.mk ⟨ir, iq⟩ b (-1) 0 zeroCmd 0 [] false) with
        | false =>
          have D2 := Lib.hid (D.out.forget.own [(.sl 38 16 m (cat InstD.c l) .nil, [.slice A m c], F)] (fun p hp => by rcases List.mem_singleton.1 hp with rfl; exact D.out.o0 (l := [])) (fun b hb => by have h1 : b ∈ F := (by simpa using hb); simp [h1]) (by have h1 := (List.nodup_append.1 (show (F ++ ([] ++ [])).Nodup from D.out.ownNd)).1; simpa using h1))
          clear D
          go_wp2
          exact ⟨⟨j - 1, m, c, _, A, l, F, HM.out, by omega, HOK.out, HWT.out, rfl, by go_num, D2.out⟩, by simp only [intOf]; omega⟩
        | true =>
          go_wp2_with (first | ((with_reducible show wpList _ _ _ ({ dst := _, op := Op.load 38 _, type := _, pos := _, after := _, guard := _ } :: _) _ _); refine wpList_load_row _ ⟨gx, 0, none⟩ rfl [.int .i64 ir, .int .i64 iq, .int .i64 b, .int .i64 (-1), .int .i64 0, .int .i64 0, .int .i64 0, .int .i64 0, .string (bs []), .string (bs []), .string (bs []), .int .i64 0, .slice none 0 0, .int .i64 0, .slice none 0 0, .bool false] agg_Inst rfl (blk_cells (DW.b0 (l := []) D.out)) ?_) | fail)
          refine (l8PutM_any l (InstD.mk ⟨ir, iq⟩ b (-1) 0 zeroCmd 0 [] false) A w.heap.size m c [.int .i64 ir, .int .i64 iq, .int .i64 b, .int .i64 (-1), .int .i64 0, .int .i64 0, .int .i64 0, .int .i64 0, .string (bs []), .string (bs []), .string (bs []), .int .i64 0, .slice none 0 0, .int .i64 0, .slice none 0 0, .bool false] [] _ HM.out (by omega) D.out.gr.size F (D.out.o0 (l := [])) (D.out.o0 (l := [_])) (by have h1 := D.out.ownNd; simpa using h1)).mono ?_
          rintro e w14 ⟨A3, m3, c3, rfl, hm3, ⟨F3, hn3, ho3⟩, hb⟩
          have D3 := Lib.hid ((D.out.bare.below hb).add ho3 hn3)
          have HM3 := Lib.hid hm3; clear hm3
          clear D hb ho3 hn3
          have HX := Lib.hid hx; clear hx
          go_wp2
          exact ⟨⟨j - 1, m3, c3, _, A3, fPut l (InstD.mk ⟨ir, iq⟩ b (-1) 0 zeroCmd 0 [] false), F3, HM3.out, by have h1 := putL (InstD.mk ⟨ir, iq⟩ b (-1) 0 zeroCmd 0 [] false) l; have h2 := HM.out; have h3 := HM3.out; omega, by rw [put_ok HOK.out]; exact HX.out, put_wtm HWT.out HXW.out, rfl, by go_num, D3.out⟩, by simp only [intOf]; omega⟩
    · have hj00 : j = 0 := by omega
      subst hj00
      have hd1 : ¬ (0 : Int) < ((0 : Nat) : Int) := by omega
      have hmn : 0 ≤ (m : Int) := by omega
      by_cases hm0 : 0 < m
      · have hd2 : (0 : Int) < (m : Int) := by omega
        go_wp2_with fail
        refine (H12.out _ _ D.out.cu).mono ?_
        rintro e w7 ⟨bb, s4, rfl, hc1, hg1⟩
        have X := Lib.hid (D.out.call hc1 hg1); clear D hc1 hg1
        have D := Lib.hid X.out; clear X
        cases bb with
        | false =>
          go_wp2
          go_ret
          exact ⟨⟨l, A, m, c, _, ret_eq rfl, HM.out, by omega, fun y hy => Nat.le_succ_of_le (HWT.out y hy), ⟨F, by have h1 := D.out.ownNd; simpa using h1, D.out.o0 (l := [])⟩, D.out.cu, D.out.gr⟩⟩
        | true =>
          go_wp2_with fail
          refine (HBk.out m _ _ D.out.cu (by omega) (by omega)).mono ?_
          rintro e w8 ⟨k, s5, hk, rfl, hc1, hg1⟩
          have X := Lib.hid (D.out.call hc1 hg1); clear D hc1 hg1
          have D := Lib.hid X.out; clear X
          go_wp2_with fail
          refine (HB4.out _ _ D.out.cu).mono ?_
          rintro e w9 ⟨sw, s6, hsw, rfl, hc1, hg1⟩
          have X := Lib.hid (D.out.call hc1 hg1); clear D hc1 hg1
          have D := Lib.hid X.out; clear X
          have hkl : k < l.length := by have := HM.out; omega
          have hki : (k : Int) < (m : Int) := by omega
          have HND := Lib.hid (show F.Nodup from by have h1 := D.out.ownNd; simpa using h1)
          rcases (show sw = 0 ∨ sw = 1 ∨ sw = 2 ∨ sw = 3 by omega) with rfl | rfl | rfl | rfl
          · skip
            go_wp2_with fail
            refine (HP1.out _ _ _ _ (D.out.alloc _).cu (by have := D.out.gr.size; omega) (reads_ints _ _ _ _ [-2, 600, 601] rfl rfl)).mono ?_
            rintro e w10 ⟨v, s7, rfl, hc1, hg1⟩
            have X := Lib.hid ((D.out.alloc _).call hc1 hg1); clear D hc1 hg1
            have D := Lib.hid X.out; clear X
            obtain ⟨gA, ci, Fk, rfl, hb1, hb2, hb3, hb4, hok2, hnk, hsub, hcell, hfz, hput⟩ := own_putE InstD.width (D.out.o0 (l := [])) HM.out HND.out k hkl
            obtain ⟨A0, k0, A2, k2, F0, F2, rfl, rfl, s0, s1⟩ := InstD.openO hok2
            have HPUT := Lib.hid hput; clear hput
            have HS0 := Lib.hid s0; clear s0
            have HS1 := Lib.hid s1; clear s1
            clear hok2
            have cx := hcell 2 _ rfl
            have fx := hfz (k * 16 + 2)
            clear hcell hfz
            have HNK := Lib.hid hnk; clear hnk
            go_wp2
            go_ret
            obtain ⟨F', hn', ho'⟩ := HPUT.out (w10.setCell ⟨gA, k * 16 + 2, none⟩ (.int .i64 v)) 2 (.int .i64 v) (InstD.mk l[k].id v l[k].vbal l[k].status l[k].cmd l[k].seq l[k].deps l[k].same) (F0 ++ F2) (by omega) rfl (fun b _ _ hne => Below.heap_setCell _ _ _ _ hne) (InstD.shutO (x := (InstD.mk l[k].id v l[k].vbal l[k].status l[k].cmd l[k].seq l[k].deps l[k].same)) (HS0.out.keep (fun b hb => Below.heap_setCell _ _ _ _ (fun e => hb4 (by have e2 : b = gA := e; subst e2; simp [hb])))) (HS1.out.keep (fun b hb => Below.heap_setCell _ _ _ _ (fun e => hb4 (by have e2 : b = gA := e; subst e2; simp [hb]))))) (fun b hb => .inl hb) HNK.out
            exact ⟨⟨l.set k (InstD.mk l[k].id v l[k].vbal l[k].status l[k].cmd l[k].seq l[k].deps l[k].same), _, m, c, _, ret_eq rfl, by rw [List.length_set]; exact HM.out, by omega, wt_set HWT.out (by show (InstD.c l[k]).wt ≤ 300 + 1; exact Nat.le_succ_of_le (HWT.out _ (List.getElem_mem hkl))), ⟨F', hn', ho'⟩, D.out.cu.keep (grown_set _ gA _ _) (fun k hk => by injection hk with hk; omega), grownBy_trans_new D.out.gr (grown_set _ gA _ _) (fun k hk => .inr (by injection hk with hk; omega))⟩⟩
          · skip
            go_wp2_with fail
            refine (HB5.out _ _ D.out.cu).mono ?_
            rintro e w10 ⟨v, s7, hv, rfl, hc1, hg1⟩
            have X := Lib.hid (D.out.call hc1 hg1); clear D hc1 hg1
            have D := Lib.hid X.out; clear X
            obtain ⟨gA, ci, Fk, rfl, hb1, hb2, hb3, hb4, hok2, hnk, hsub, hcell, hfz, hput⟩ := own_putE InstD.width (D.out.o0 (l := [])) HM.out HND.out k hkl
            obtain ⟨A0, k0, A2, k2, F0, F2, rfl, rfl, s0, s1⟩ := InstD.openO hok2
            have HPUT := Lib.hid hput; clear hput
            have HS0 := Lib.hid s0; clear s0
            have HS1 := Lib.hid s1; clear s1
            clear hok2
            have cx := hcell 4 _ rfl
            have fx := hfz (k * 16 + 4)
            clear hcell hfz
            have HNK := Lib.hid hnk; clear hnk
            go_wp2
            go_ret
            obtain ⟨F', hn', ho'⟩ := HPUT.out (w10.setCell ⟨gA, k * 16 + 4, none⟩ (.int .i64 (v : Int))) 4 (.int .i64 (v : Int)) (InstD.mk l[k].id l[k].bal l[k].vbal (v : Int) l[k].cmd l[k].seq l[k].deps l[k].same) (F0 ++ F2) (by omega) rfl (fun b _ _ hne => Below.heap_setCell _ _ _ _ hne) (InstD.shutO (x := (InstD.mk l[k].id l[k].bal l[k].vbal (v : Int) l[k].cmd l[k].seq l[k].deps l[k].same)) (HS0.out.keep (fun b hb => Below.heap_setCell _ _ _ _ (fun e => hb4 (by have e2 : b = gA := e; subst e2; simp [hb])))) (HS1.out.keep (fun b hb => Below.heap_setCell _ _ _ _ (fun e => hb4 (by have e2 : b = gA := e; subst e2; simp [hb]))))) (fun b hb => .inl hb) HNK.out
            exact ⟨⟨l.set k (InstD.mk l[k].id l[k].bal l[k].vbal (v : Int) l[k].cmd l[k].seq l[k].deps l[k].same), _, m, c, _, ret_eq rfl, by rw [List.length_set]; exact HM.out, by omega, wt_set HWT.out (by show (InstD.c l[k]).wt ≤ 300 + 1; exact Nat.le_succ_of_le (HWT.out _ (List.getElem_mem hkl))), ⟨F', hn', ho'⟩, D.out.cu.keep (grown_set _ gA _ _) (fun k hk => by injection hk with hk; omega), grownBy_trans_new D.out.gr (grown_set _ gA _ _) (fun k hk => .inr (by injection hk with hk; omega))⟩⟩
          · skip
            go_wp2_with fail
            refine (HP2.out _ _ _ _ (D.out.alloc _).cu (by have := D.out.gr.size; omega) (reads_ints _ _ _ _ [-1, 60, 61] rfl rfl)).mono ?_
            rintro e w10 ⟨v, s7, rfl, hc1, hg1⟩
            have X := Lib.hid ((D.out.alloc _).call hc1 hg1); clear D hc1 hg1
            have D := Lib.hid X.out; clear X
            obtain ⟨gA, ci, Fk, rfl, hb1, hb2, hb3, hb4, hok2, hnk, hsub, hcell, hfz, hput⟩ := own_putE InstD.width (D.out.o0 (l := [])) HM.out HND.out k hkl
            obtain ⟨A0, k0, A2, k2, F0, F2, rfl, rfl, s0, s1⟩ := InstD.openO hok2
            have HPUT := Lib.hid hput; clear hput
            have HS0 := Lib.hid s0; clear s0
            have HS1 := Lib.hid s1; clear s1
            clear hok2
            have cx := hcell 13 _ rfl
            have fx := hfz (k * 16 + 13)
            clear hcell hfz
            have HNK := Lib.hid hnk; clear hnk
            go_wp2
            go_ret
            obtain ⟨F', hn', ho'⟩ := HPUT.out (w10.setCell ⟨gA, k * 16 + 13, none⟩ (.int .i64 v)) 13 (.int .i64 v) (InstD.mk l[k].id l[k].bal l[k].vbal l[k].status l[k].cmd v l[k].deps l[k].same) (F0 ++ F2) (by omega) rfl (fun b _ _ hne => Below.heap_setCell _ _ _ _ hne) (InstD.shutO (x := (InstD.mk l[k].id l[k].bal l[k].vbal l[k].status l[k].cmd v l[k].deps l[k].same)) (HS0.out.keep (fun b hb => Below.heap_setCell _ _ _ _ (fun e => hb4 (by have e2 : b = gA := e; subst e2; simp [hb])))) (HS1.out.keep (fun b hb => Below.heap_setCell _ _ _ _ (fun e => hb4 (by have e2 : b = gA := e; subst e2; simp [hb]))))) (fun b hb => .inl hb) HNK.out
            exact ⟨⟨l.set k (InstD.mk l[k].id l[k].bal l[k].vbal l[k].status l[k].cmd v l[k].deps l[k].same), _, m, c, _, ret_eq rfl, by rw [List.length_set]; exact HM.out, by omega, wt_set HWT.out (by show (InstD.c l[k]).wt ≤ 300 + 1; exact Nat.le_succ_of_le (HWT.out _ (List.getElem_mem hkl))), ⟨F', hn', ho'⟩, D.out.cu.keep (grown_set _ gA _ _) (fun k hk => by injection hk with hk; omega), grownBy_trans_new D.out.gr (grown_set _ gA _ _) (fun k hk => .inr (by injection hk with hk; omega))⟩⟩
          · skip
            obtain ⟨gA, ci, Fk, rfl, hb1, hb2, hb3, hb4, hok2, hnk, hsub, hcell, hfz, hput⟩ := own_putE InstD.width (D.out.o0 (l := [])) HM.out HND.out k hkl
            obtain ⟨A0, k0, A2, k2, F0, F2, rfl, rfl, s0, s1⟩ := InstD.openO hok2
            have HPUT := Lib.hid hput; clear hput
            have HS0 := Lib.hid s0; clear s0
            have HS1 := Lib.hid s1; clear s1
            clear hok2
            obtain ⟨cells, F3, hF2, hw2, hr2, hi2⟩ := Own.sl1.1 HS1.out
            have hcl := rep_ids hi2.repAny
            subst hcl
            have hF3 := own_ids_nil hi2
            subst hF3
            rw [List.append_nil] at hF2
            have HR2 := Lib.hid hr2; clear hr2 hi2 hw2
            have hdw := HWT.out _ (List.getElem_mem hkl)
            have hdl2 : l[k].deps.length ≤ 300 := by have h1 := inst_wt_deps l[k] []; simp only [List.length_nil] at h1; omega
            have cx := hcell 14 _ rfl
            have HFZ := Lib.hid hfz; clear hfz
            have HNK := Lib.hid hnk; clear hnk
            generalize hdp : l[k].deps = dp at *
            have HDP := Lib.hid hdp; clear hdp
            go_wp2
            refine wp_region_m (fun v => v.cell? ⟨gA, k * 16 + 14, none⟩ = some (.slice A2 dp.length k2)) 13 (.rd 0 (.rd 1 (.rd 2 (.rd 3 (.rd 4 (.rd 5 (.rd 6 (.rd 7 (.act 8 (.act 9 (.act 10 (.rd 11 (.rd 12 .leaf))))))))))))) [13] (by kernel_rfl) (by kernel_rfl) cx ?_
            iterate 6 (refine wpM_bare rfl (by kernel_rfl) rfl rfl ?_; go_wp2; refine ⟨rfl, ?_⟩)
            refine wpM_read rfl rfl (.slice A2 dp.length k2) (fun w' hw' => run_load1 rfl rfl (fun v => load_slice (e := 26) (by kernel_rfl) v) hw') ?_
            refine wpM_bare rfl (by kernel_rfl) rfl rfl ?_; go_wp2; refine ⟨rfl, ?_⟩
            refine wpM_act rfl ?_
            go_wp2_with fail
            refine (HID.out _ _ D.out.drew.cu).mono ?_
            rintro e w10 ⟨⟨dr, dq⟩, s7, rfl, hc1, hg1⟩
            have hk10 : ∀ b ∈ F, w10.heap[b]? = w9.heap[b]? := fun b hb => hg1.block b ((D.out.o0 (l := [])).in b hb).2 (fun e => by have h1 := ((D.out.o0 (l := [])).in b hb).1; injection e with e; omega)
            have HK10 := Lib.hid hk10; clear hk10
            have X := Lib.hid (D.out.drew.call hc1 hg1); clear D hc1 hg1
            have D := Lib.hid X.out; clear X
            have cx1 := cell_same cx (HK10.out gA hb3)
            have HR3 := Lib.hid (ownsRow_keep (base' := w.heap.size) HR2.out (w' := w10) (fun b hb => ⟨(HR2.out.lt b hb).1, HK10.out b (hsub b (by rw [hF2]; simp [hb]))⟩)); clear HR2
            go_wp2_with fail
            refine ⟨cx1, ?_⟩
            refine wpM_act rfl ?_
            go_wp2_with fail
            have cx2 : (w10.alloc (.cells #[.int .i64 dr, .int .i64 dq] 26)).cell? ⟨gA, k * 16 + 14, none⟩ = some (.slice A2 dp.length k2) := cell_same cx1 (grown_alloc w10 _ |>.block gA (by have h1 := (D.out.o0 (l := [])).in gA hb3; exact h1.2) (by simp))
            refine ⟨cx2, ?_⟩
            refine wpM_act rfl ?_
            refine wpList_app E_Id _ rfl _ _ rfl w.heap.size _ dp.length _ rfl (HR3.out.alloc _) _ _ _ (idCells [⟨dr, dq⟩]) rfl (Reads.new (e := 26) rfl) (id_one _ _) (by omega) (by have := D.out.gr.size; simp; omega) ?_
            intro vv w11 hown3 hg3 hat3
            rw [← idCells_app] at hown3
            obtain ⟨Av, kv, rfl, _⟩ := SlR.of_own hown3
            have hne : some gA ≠ (Value.slice A2 dp.length k2).ownBlock := fun e => hb4 (by rw [hF2, ← e]; simp)
            have hgA11 : w11.heap[gA]? = w10.heap[gA]? := (hg3.block gA (by have h1 := ((D.out.alloc (.cells #[.int .i64 dr, .int .i64 dq] 26)).o0 (l := [])).in gA hb3; exact h1.2) hne).trans (grown_alloc w10 _ |>.block gA ((D.out.o0 (l := [])).in gA hb3).2 (by simp))
            have cx3 : w11.cell? ⟨gA, k * 16 + 14, none⟩ = some (.slice A2 dp.length k2) := cell_same cx1 hgA11
            go_wp2
            refine ⟨cx3, ?_⟩
            have HCX3 := Lib.hid cx3; clear cx cx1 cx2 hcell
            have fx : w11.frozen? ⟨gA, k * 16 + 14, none⟩ = false := by
              have h1 := HFZ.out (k * 16 + 14)
              rw [frozen_same (hgA11.trans (HK10.out gA hb3))]
              exact h1
            have cx3 := HCX3.out
            iterate 2 (refine wpM_bare rfl (by kernel_rfl) rfl rfl ?_; go_wp2; refine ⟨rfl, ?_⟩)
            refine wpM_nil ?_
            simp only [pickOps, List.getElem?_toArray, List.getElem?_cons_succ, List.getElem?_cons_zero]
            have HO11 := Lib.hid hown3; clear hown3
            have HG3 := Lib.hid (show (w10.alloc (.cells #[.int .i64 dr, .int .i64 dq] 26)).grownBy w11 (Value.slice A2 dp.length k2).ownBlock from hg3); clear hg3
            have HAT := Lib.hid (show (Value.slice Av (dp.length + 1) kv).ownBlock = (Value.slice A2 dp.length k2).ownBlock ∨ (Value.slice Av (dp.length + 1) kv).ownBlock = some (w10.heap.size + 1) from by rw [← size_alloc' w10 (.cells #[.int .i64 dr, .int .i64 dq] 26)]; exact hat3); clear hat3
            go_wp2
            refine ⟨trivial, ?_⟩
            go_wp2
            go_ret
            have hD10 := D.out.o0 (l := [])
            have hbk : ∀ b ∈ F, b ∉ F2 → w11.heap[b]? = w9.heap[b]? := fun b hb hn => (HG3.out.block b (by rw [size_alloc']; have := (hD10.in b hb).2; omega) (fun e => hn (by rw [hF2, ← e]; simp))).trans (((grown_alloc w10 _).block b (hD10.in b hb).2 (by simp)).trans (HK10.out b hb))
            have hvb : ∀ b, (Value.slice Av (dp.length + 1) kv).ownBlock = some b → b ∈ F2 ∨ b = w10.heap.size + 1 := fun b hb => by
              rcases HAT.out with h1 | h1
              · left; rw [hF2, ← h1, hb]; simp
              · right; rw [h1] at hb; injection hb with hb; exact hb.symm
            have hvn : ∀ b, (Value.slice Av (dp.length + 1) kv).ownBlock = some b → b ≠ gA := fun b hb e => by
              rcases hvb b hb with h1 | h1
              · exact hb4 (by rw [← e]; simp [h1])
              · have := (hD10.in gA hb3).2; omega
            obtain ⟨F', hn', ho'⟩ := HPUT.out (w11.setCell ⟨gA, k * 16 + 14, none⟩ (.slice Av (dp.length + 1) kv)) 14 (.slice Av (dp.length + 1) kv) (InstD.mk l[k].id l[k].bal l[k].vbal l[k].status l[k].cmd l[k].seq (dp ++ [⟨dr, dq⟩]) l[k].same) (F0 ++ (Value.slice Av (dp.length + 1) kv).ownBlock.toList) (by omega) (setCell_cong (hgA11.trans (HK10.out gA hb3)) _ _) (fun b hb hn hne => (Below.heap_setCell _ _ _ _ hne).trans (hbk b hb (fun h => hn (by simp [h])))) (by
                have h1 := InstD.shutO (w := w11.setCell ⟨gA, k * 16 + 14, none⟩ (.slice Av (dp.length + 1) kv)) (base := w.heap.size) (x := InstD.mk l[k].id l[k].bal l[k].vbal l[k].status l[k].cmd l[k].seq (dp ++ [⟨dr, dq⟩]) l[k].same) (v0 := .slice A0 l[k].cmd.chunks.length k0) (v1 := .slice Av (dp.length + 1) kv) (F0 := F0) (F1 := (Value.slice Av (dp.length + 1) kv).ownBlock.toList)
                  (HS0.out.keep (fun b hb => (Below.heap_setCell _ _ _ _ (fun e => hb4 (by have e2 : b = gA := e; subst e2; simp [hb]))).trans (hbk b (hsub b (by simp [hb])) (fun h => (List.nodup_append.1 HNK.out).2.2 b hb b h rfl))))
                  (by
                    have h2 : (w11.setCell ⟨gA, k * 16 + 14, none⟩ (.slice Av (dp.length + 1) kv)).ownsRow w.heap.size 26 2 (.slice Av (dp.length + 1) kv) (dp.length + 1) (idCells (dp ++ [⟨dr, dq⟩])) := ownsRow_keep HO11.out (fun b hb => ⟨(HO11.out.lt b hb).1, Below.heap_setCell _ _ _ _ (hvn b hb)⟩)
                    have h3 : (dp ++ [(⟨dr, dq⟩ : IdD)]).length = dp.length + 1 := by simp
                    have h4 : (cat IdD.c (dp ++ [⟨dr, dq⟩])).width = (dp.length + 1) * 2 := by rw [← h3, ← idCells_length, (own_ids w 0 _).length]
                    have h5 := Own.sl1.2 ⟨idCells (dp ++ [⟨dr, dq⟩]), [], (List.append_nil _).symm, h4, h2, own_ids _ _ _⟩
                    rw [← h3] at h5 ⊢
                    exact h5)
                exact h1) (fun b hb => by
                rcases List.mem_append.1 hb with h1 | h1
                · left; simp [h1]
                · rcases hvb b (by simpa using h1) with h2 | h2
                  · left; simp [h2]
                  · right; intro h3; have := (hD10.in b h3).2; omega) (List.nodup_append.2 ⟨(List.nodup_append.1 HNK.out).1, nodup_own _, fun a ha b hb e => by
                subst e
                rcases hvb a (by simpa using hb) with h2 | h2
                · exact (List.nodup_append.1 HNK.out).2.2 a ha a h2 rfl
                · have := (hD10.in a (hsub a (by simp [ha]))).2; omega⟩)
            have hg11 : w10.grownBy w11 (Value.slice A2 dp.length k2).ownBlock := World.grownBy.trans (grown_weak (grown_alloc w10 _)) HG3.out
            have hob : ∀ b, (Value.slice A2 dp.length k2).ownBlock = some b → w.heap.size ≤ b := fun b hb => (HR3.out.lt b hb).1
            have hc11 : Cur B g xs s7 w11 := D.out.cu.keep hg11 (fun k hk => by have := hob k hk; omega)
            have hr11 : w.grownBy w11 (some g) := grownBy_trans_new D.out.gr hg11 (fun k hk => .inr (hob k hk))
            exact ⟨⟨l.set k _, _, m, c, _, ret_eq rfl, by rw [List.length_set]; exact HM.out, by omega, wt_set HWT.out (by have h1 := inst_wt_deps l[k] (dp ++ [⟨dr, dq⟩]); rw [HDP.out] at h1; simp only [List.length_append, List.length_cons, List.length_nil] at h1; omega), ⟨F', hn', ho'⟩, hc11.keep (grown_set _ gA _ _) (fun k hk => by injection hk with hk; omega), grownBy_trans_new hr11 (grown_set _ gA _ _) (fun k hk => .inr (by injection hk with hk; omega))⟩⟩
      · have hm00 : m = 0 := by omega
        subst hm00
        have hd2 : ¬ (0 : Int) < ((0 : Nat) : Int) := by omega
        go_wp2
        go_ret
        exact ⟨⟨l, A, 0, c, _, ret_eq rfl, HM.out, by omega, fun y hy => Nat.le_succ_of_le (HWT.out y hy), ⟨F, by have h1 := D.out.ownNd; simpa using h1, D.out.o0 (l := [])⟩, D.out.cu, D.out.gr⟩⟩

end Go.Proofs.YtonaacdefidomaaGreat
namespace Go.Proofs.YtonaacdefidomaaGreat
open Go.RowKit
theorem mine_call {w w' : World} {base g : Nat} {d : Cs} {cs : List Value} (h : Mine w base d cs) (hg : w.grownBy w' (some g)) (hlt : g < base) : Mine w' base d cs :=
  let ⟨F, h1, h2⟩ := h
  ⟨F, h1, h2.keep fun b hb => hg.block b (h2.in b hb).2 (fun e => by have := (h2.in b hb).1; injection e with e; omega)⟩
theorem mine_set {w w' : World} {base g : Nat} {d : Cs} {cs : List Value} (h : Mine w base d cs) (hg : w.grownBy w' (some g)) (hlt : g < base) : Mine w' base d cs := mine_call h hg hlt
theorem own_cap {w : World} {base e size n c : Nat} {A : Option Addr} {l : List Value} (h : w.ownsRow base e size (.slice A n c) n l) : n ≤ c := by
  rcases h.2 with ⟨h0, h1⟩ | ⟨g, cap, cur, hv, _, _, hnc, _⟩
  · omega
  · injection hv with _ _ e3
    omega
theorem bodyPost_tcc {P : Program} {fn : Func} {R : Ending → World → Prop} {a : Act} {w : World} {s1 s s2 : Tmp} {t n t2 n2 : Nat} (hres : fn.results = #[.tmp s1, .cell s t, .cell s2 t2]) (u : Value) (hu : a.tmps.getD s1 undef = u) (p p2 : Addr) (hp : a.tmps.getD s undef = .pointer (some p)) (hp2 : a.tmps.getD s2 undef = .pointer (some p2)) (cs cs2 : List Value) (h : Agg P t n) (hl : cs.length = n) (h2 : Agg P t2 n2) (hl2 : cs2.length = n2)
    (hc : ∀ j v, cs[j]? = some v → w.cell? (p.add j) = some v) (hc2 : ∀ j v, cs2[j]? = some v → w.cell? (p2.add j) = some v) (hd : a.defers = []) (hR : R (.returned (.tuple #[u, .agg cs.toArray, .agg cs2.toArray])) w) : bodyPost P fn R .ret a w := by
  refine bodyPost_ret (v := .tuple #[u, .agg cs.toArray, .agg cs2.toArray]) ?_ hd hR
  unfold results
  rw [hres]
  have hu' : a.tmps[s1]?.getD undef = u := by simpa using hu
  have hp' : a.tmps[s]?.getD undef = .pointer (some p) := by simpa using hp
  have hp2' : a.tmps[s2]?.getD undef = .pointer (some p2) := by simpa using hp2
  simp [hu', hp', hp2', asAddr, loadVar, (hl ▸ h : Agg P t cs.length).isAgg, (hl ▸ h : Agg P t cs.length).size, run_loadCells_list (P := P) (w := w) p cs hc, (hl2 ▸ h2 : Agg P t2 cs2.length).isAgg, (hl2 ▸ h2 : Agg P t2 cs2.length).size, run_loadCells_list (P := P) (w := w) p2 cs2 hc2, Result.andThen]
theorem bodyPost_tc {P : Program} {fn : Func} {R : Ending → World → Prop} {a : Act} {w : World} {s1 s : Tmp} {t n : Nat} (hres : fn.results = #[.tmp s1, .cell s t]) (u : Value) (hu : a.tmps.getD s1 undef = u) (p : Addr) (hp : a.tmps.getD s undef = .pointer (some p)) (cs : List Value) (h : Agg P t n) (hl : cs.length = n)
    (hc : ∀ j v, cs[j]? = some v → w.cell? (p.add j) = some v) (hd : a.defers = []) (hR : R (.returned (.tuple #[u, .agg cs.toArray])) w) : bodyPost P fn R .ret a w := by
  refine bodyPost_ret (v := .tuple #[u, .agg cs.toArray]) ?_ hd hR
  unfold results
  rw [hres]
  have hu' : a.tmps[s1]?.getD undef = u := by simpa using hu
  have hp' : a.tmps[s]?.getD undef = .pointer (some p) := by simpa using hp
  simp [hu', hp', asAddr, loadVar, (hl ▸ h : Agg P t cs.length).isAgg, (hl ▸ h : Agg P t cs.length).size, run_loadCells_list (P := P) (w := w) p cs hc, Result.andThen]

structure JoinPost (w : World) (e : Ending) (w' : World) : Prop where
  out : ∃ (a b : List IdD) (A A' : Option Addr) (q q' k k' : Nat), e = .returned (.tuple #[.slice A q k, .slice A' q' k']) ∧ q = a.length ∧ q' = b.length ∧ q ≤ 10 ∧ q' ≤ 10 ∧ q ≤ k ∧ q' ≤ k' ∧ Rep anyB w' (.sl 26 2 q (cat IdD.c a) .nil) [.slice A q k] ∧ Rep anyB w' (.sl 26 2 q' (cat IdD.c b) .nil) [.slice A' q' k'] ∧ Below w.heap.size w w'
set_option maxRecDepth 100000 in
set_option maxHeartbeats 2000000 in
theorem drawJoinIds_x (A0 : Option Addr) (n c : Nat) (xs : List UInt8) (w : World) (hr : Reads w 1 A0 n (xs.map u8v)) (hn : n ≤ 1048576) :
    Calls Tryz.prog 14 #[.slice A0 n c] w (JoinPost w) := by
  go_enter Tryz.func14, Tryz.ntmps14
  go_wp2_with fail
  refine (l1New_x A0 n c xs _ hr hn).mono ?_
  rintro e w2 ⟨g, rfl, hc2, hb2⟩
  have hgB : w.heap.size ≤ g := by have h1 := hc2; obtain ⟨_, _, _, _, _, _, _, _, h, _⟩ := h1; exact h
  have hgl := hc2.lt
  have BW := Lib.hid hb2; clear hb2
  have HC := Lib.hid hc2; clear hc2
  go_wp2_with fail
  refine (l8Ids_x _ g xs _ _ HC.out).mono ?_
  rintro e w3 ⟨a, A, q, k, s3, rfl, hq, hq10, ho, hc3, hg3⟩
  have X := Lib.hid (BW.out.grown hg3 BW.out.size (fun k hk => by injection hk with hk; omega)); clear BW
  have BW := Lib.hid X.out; clear X
  have hz3 := hg3.size
  have HO := Lib.hid ho; clear ho
  have HQ := Lib.hid hq; clear hq HC
  have HC := Lib.hid hc3; clear hc3 hg3
  go_wp2_with fail
  refine (l8Ids_x _ g xs _ _ HC.out).mono ?_
  rintro e w4 ⟨b, A', q', k', s4, rfl, hq', hq10', ho', hc4, hg4⟩
  have X := Lib.hid (BW.out.grown hg4 BW.out.size (fun k hk => by injection hk with hk; omega)); clear BW
  have BW := Lib.hid X.out; clear X
  have X := Lib.hid (row_call HO.out hg4 hgl); clear HO
  have HO := Lib.hid X.out; clear X
  have HO2 := Lib.hid ho'; clear ho' hc4 hg4
  have HQ2 := Lib.hid hq'; clear hq'
  go_wp2
  go_ret2
  exact ⟨⟨a, b, A, A', q, q', k, k', ret_eq rfl, HQ.out, HQ2.out, hq10, hq10', own_cap HO.out, own_cap HO2.out, (mine_ids HO.out HQ.out).rep.any, (mine_ids HO2.out HQ2.out).rep.any, BW.out⟩⟩

structure AttrsPost (w : World) (e : Ending) (w' : World) : Prop where
  out : ∃ (l : List InstD) (ir iq : Int) (d : CmdD) (cs : List Value) (A : Option Addr) (q k : Nat), e = .returned (.tuple #[.slice A q k, .agg #[.int .i64 ir, .int .i64 iq], .agg cs.toArray]) ∧ q = l.length ∧ q ≤ 6 ∧ (∀ y ∈ l, y.c.wt ≤ 301) ∧ d.c.wt ≤ 200 ∧ Rep anyB w' (.sl 38 16 q (cat InstD.c l) .nil) [.slice A q k] ∧ Rep anyB w' d.c cs ∧ Below w.heap.size w w'
set_option maxRecDepth 100000 in
set_option maxHeartbeats 4000000 in
theorem drawAttrsOf_x (A0 : Option Addr) (n c : Nat) (xs : List UInt8) (w : World) (hr : Reads w 1 A0 n (xs.map u8v)) (hn : n ≤ 1048576) :
    Calls Tryz.prog 5 #[.slice A0 n c] w (AttrsPost w) := by
  go_enter Tryz.func5, Tryz.ntmps5
  go_wp2_with fail
  refine (l1New_x A0 n c xs _ (hr.below (((Below.refl _ _).alloc (Nat.le_refl _) _).alloc (by simp) _)) hn).mono ?_
  rintro e w2 ⟨g, rfl, hc2, hb2⟩
  have hgB : w.heap.size + 2 ≤ g := by have h1 := hc2; obtain ⟨_, _, _, _, _, _, _, _, h, _⟩ := h1; simpa using h
  have hgl := hc2.lt
  have ZB := Lib.hid (show Blk w2 w.heap.size 26 [.int .i64 0, .int .i64 0].toArray from ((blk_new w _ _).alloc _).below hb2)
  have YB := Lib.hid (show Blk w2 (w.heap.size + 1) 29 [.int .i64 0, .int .i64 0, .int .i64 0, .string (bs []), .string (bs []), .string (bs []), .int .i64 0, .slice none 0 0].toArray from by have h1 := (blk_new (w.alloc (.cells #[.int .i64 0, .int .i64 0] 26)) #[.int .i64 0, .int .i64 0, .int .i64 0, .string (bs []), .string (bs []), .string (bs []), .int .i64 0, .slice none 0 0] 29).below hb2; simpa using h1)
  have BW := Lib.hid (show Below w.heap.size w w2 from Below.trans (((Below.refl _ _).alloc (Nat.le_refl _) _).alloc (by simp) _) (hb2.mono (by simp <;> omega)))
  clear hb2
  have HC := Lib.hid hc2; clear hc2
  go_wp2_with fail
  refine (l8Insts_x _ g xs _ _ HC.out).mono ?_
  rintro e w3 ⟨l, A, q, k, s3, rfl, hq, hq6, hwt, hm, hc3, hg3⟩
  have hz3 := hg3.size
  have HQ := Lib.hid hq; clear hq
  have HWT := Lib.hid hwt; clear hwt
  have M1 := Lib.hid hm; clear hm HC
  have HC := Lib.hid hc3; clear hc3
  have X := Lib.hid (ZB.out.grown hg3 (by omega)); clear ZB
  have ZB := Lib.hid X.out; clear X
  have X := Lib.hid (YB.out.grown hg3 (by omega)); clear YB
  have YB := Lib.hid X.out; clear X
  have X := Lib.hid (BW.out.grown hg3 BW.out.size (fun k hk => by injection hk with hk; omega)); clear BW hg3
  have BW := Lib.hid X.out; clear X
  go_wp2_with fail
  refine (l8DrawId_x _ g xs _ _ HC.out).mono ?_
  rintro e w4 ⟨⟨ir, iq⟩, s4, rfl, hc4, hg4⟩
  have hz4 := hg4.size
  clear HC
  have HC := Lib.hid hc4; clear hc4
  have X := Lib.hid (ZB.out.grown hg4 (by omega)); clear ZB
  have ZB := Lib.hid X.out; clear X
  have X := Lib.hid (YB.out.grown hg4 (by omega)); clear YB
  have YB := Lib.hid X.out; clear X
  have X := Lib.hid (mine_call M1.out hg4 hgl); clear M1
  have M1 := Lib.hid X.out; clear X
  have X := Lib.hid (BW.out.grown hg4 BW.out.size (fun k hk => by injection hk with hk; omega)); clear BW hg4
  have BW := Lib.hid X.out; clear X
  obtain ⟨gi, hgi⟩ : ∃ x, x = w4.heap.size := ⟨_, rfl⟩
  have HGI := Lib.hid hgi; clear hgi
  go_wp2_with (first | ((with_reducible show wpList _ _ _ ({ dst := _, op := Op.store 26 _ _, type := _, pos := _, after := _, guard := _ } :: _) _ _); rw [← HGI.out]; go_must (refine wpList_store_row _ gi 26 0 [.int .i64 ir, .int .i64 iq] [] [.int .i64 0, .int .i64 0] [] _ rfl rfl agg_Id (by rw [HGI.out]; exact blk_new w4 _ _) rfl rfl rfl (by simp [Value.oneCell']) ?_; intro w5 h5 g5; have CB := Lib.hid (show Blk w5 gi 26 [.int .i64 ir, .int .i64 iq].toArray by simpa using h5); have B5 := Lib.hid (show Below w4.heap.size w4 w5 from Below.grown ((Below.refl _ _).alloc (Nat.le_refl _) _) g5 (by simp) (fun k hk => by injection hk with hk; have := HGI.out; omega)); clear h5 g5)) | fail)
  have HG4 := Lib.hid (show w4.heap.size ≤ gi by rw [HGI.out]; exact Nat.le_refl _)
  have hz5 := B5.out.size
  have X := Lib.hid (ZB.out.below B5.out); clear ZB
  have ZB := Lib.hid X.out; clear X
  have X := Lib.hid (YB.out.below B5.out); clear YB
  have YB := Lib.hid X.out; clear X
  have X := Lib.hid (BW.out.trans (B5.out.mono BW.out.size)); clear BW
  have BW := Lib.hid X.out; clear X
  have X := Lib.hid (M1.out.below B5.out); clear M1
  have M1 := Lib.hid X.out; clear X
  have X := Lib.hid (HC.out.below B5.out); clear HC B5
  have HC := Lib.hid X.out; clear X
  clear HGI
  have HZG := Lib.hid (show gi < w5.heap.size from CB.out.lt)
  refine wp_region_m (fun v => Blk v gi 26 #[.int .i64 ir, .int .i64 iq]) 5 (.rd 0 (.rd 1 (.rd 2 (.act 3 (.rd 4 .leaf))))) [5, 6] (by kernel_rfl) (by kernel_rfl) CB.out ?_
  refine wpM_bare rfl (by kernel_rfl) rfl rfl ?_; go_wp2; refine ⟨rfl, ?_⟩
  refine wpM_read rfl rfl (.agg #[.int .i64 ir, .int .i64 iq]) (fun w' hw' => run_loadN (cs := [.int .i64 ir, .int .i64 iq]) rfl rfl agg_Id (blk_cells hw')) ?_
  refine wpM_bare rfl (by kernel_rfl) rfl rfl ?_; go_wp2; refine ⟨rfl, ?_⟩
  refine wpM_act rfl ?_
  go_wp2_with fail
  refine (l4Cmd_x _ g xs _ _ (HC.out.keep (show w5.grownBy w5.drew none from ⟨rfl, rfl, rfl, Nat.le_refl _, fun _ _ _ => rfl⟩) (fun k hk => by cases hk))).mono ?_
  rintro e w6 ⟨⟨d, cs, s6, rfl, hsm, hm, hc6, hg6⟩⟩
  have hz6 : w5.heap.size ≤ w6.heap.size := hg6.size
  have hdw := hsm.wt
  have L2 := Lib.hid (show cs.length = 8 from hm.rep.length.trans (CmdD.width _))
  have M2 := Lib.hid (show Mine w6 w5.heap.size d.c cs from hm); clear hm hc6 hsm HC
  have X := Lib.hid (ZB.out.drew.grown hg6 (by omega)); clear ZB
  have ZB := Lib.hid X.out; clear X
  have X := Lib.hid (YB.out.drew.grown hg6 (by omega)); clear YB
  have YB := Lib.hid X.out; clear X
  have X := Lib.hid (CB.out.drew.grown hg6 (by have := HG4.out; omega)); clear CB
  have CB := Lib.hid X.out; clear X
  have X := Lib.hid (BW.out.drew.grown hg6 BW.out.size (fun k hk => by injection hk with hk; omega)); clear BW
  have BW := Lib.hid X.out; clear X
  have X := Lib.hid (mine_call (w := w5.drew) (M1.out.below (Below.refl _ _).drew) hg6 hgl); clear M1 hg6
  have M1 := Lib.hid X.out; clear X
  go_wp2_with fail
  refine ⟨CB.out, ?_⟩
  refine wpM_bare rfl (by kernel_rfl) rfl rfl ?_; go_wp2; refine ⟨rfl, ?_⟩
  refine wpM_nil ?_
  simp only [pickOps, List.getElem?_toArray, List.getElem?_cons_succ, List.getElem?_cons_zero]
  go_wp2_with (first
    | ((with_reducible show wpList _ _ _ ({ dst := _, op := Op.store 29 _ _, type := _, pos := _, after := _, guard := _ } :: _) _ _); refine wpList_store_row _ (w.heap.size + 1) 29 0 cs [] [.int .i64 0, .int .i64 0, .int .i64 0, .string (bs []), .string (bs []), .string (bs []), .int .i64 0, .slice none 0 0] [] _ rfl rfl (L2.out ▸ agg_Cmd) Y6.out rfl rfl L2.out.symm M2.out.rep.one ?_; intro v7 h7 g7)
    | ((with_reducible show wpList _ _ _ ({ dst := _, op := Op.store 26 _ _, type := _, pos := _, after := _, guard := _ } :: _) _ _); refine wpList_store_row _ w.heap.size 26 0 [.int .i64 ir, .int .i64 iq] [] [.int .i64 0, .int .i64 0] [] _ rfl rfl agg_Id ZB.out rfl rfl rfl (by simp [Value.oneCell']) ?_; intro v6 h6 g6; have Y6 := Lib.hid (YB.out.grown g6 (by omega)); have H6 := Lib.hid h6; have G6 := Lib.hid g6; clear h6 g6)
    | fail)
  refine ⟨trivial, ?_⟩
  have h6 := H6.out.grown g7 (by omega)
  have b7 : Below w.heap.size w v7 := (BW.out.grown G6.out BW.out.size (fun k hk => by injection hk with hk; omega)).grown g7 (Nat.le_trans BW.out.size G6.out.size) (fun k hk => by injection hk with hk; omega)
  have m1 := mine_call (mine_call M1.out G6.out (by omega)) g7 (by omega)
  have m2 := mine_call (mine_call M2.out G6.out (by omega)) g7 (by omega)
  have H8 := Lib.hid (And.intro b7 (And.intro m1.rep.any m2.rep.any)); clear b7 m1 m2
  go_wp2
  exact bodyPost_tcc rfl (.slice A q k) rfl ⟨w.heap.size, 0, none⟩ ⟨w.heap.size + 1, 0, none⟩ rfl rfl [.int .i64 ir, .int .i64 iq] cs agg_Id rfl agg_Cmd L2.out (blk_cells (by simpa using h6)) (blk_cells (by simpa using h7)) rfl ⟨⟨l, ir, iq, d, cs, A, q, k, rfl, HQ.out, hq6, HWT.out, hdw, H8.out.2.1, H8.out.2.2, H8.out.1⟩⟩

structure PutPost (w : World) (e : Ending) (w' : World) : Prop where
  out : ∃ (l : List InstD) (x : InstD) (cs : List Value) (A : Option Addr) (q k : Nat), e = .returned (.tuple #[.slice A q k, .agg cs.toArray]) ∧ q = l.length ∧ q ≤ 6 ∧ (∀ y ∈ l, y.c.wt ≤ 301) ∧ x.c.wt ≤ 301 ∧ Rep anyB w' (.sl 38 16 q (cat InstD.c l) .nil) [.slice A q k] ∧ Rep anyB w' x.c cs ∧ Below w.heap.size w w'
theorem rep_zeroI (w : World) (ir iq b v : Int) : Rep anyB w (InstD.mk ⟨ir, iq⟩ b v 0 zeroCmd 0 [] false).c [.int .i64 ir, .int .i64 iq, .int .i64 b, .int .i64 v, .int .i64 0, .int .i64 0, .int .i64 0, .int .i64 0, .string (bs []), .string (bs []), .string (bs []), .int .i64 0, .slice none 0 0, .int .i64 0, .slice none 0 0, .bool false] :=
  InstD.shut (x := InstD.mk ⟨ir, iq⟩ b v 0 zeroCmd 0 [] false) (B := anyB) Rep.sl_nil Rep.sl_nil
set_option maxRecDepth 100000 in
set_option maxHeartbeats 4000000 in
theorem drawInstPut_x (A0 : Option Addr) (n c : Nat) (xs : List UInt8) (w : World) (hr : Reads w 1 A0 n (xs.map u8v)) (hn : n ≤ 1048576) :
    Calls Tryz.prog 12 #[.slice A0 n c] w (PutPost w) := by
  go_enter Tryz.func12, Tryz.ntmps12
  go_wp2_with fail
  refine (l1New_x A0 n c xs _ (hr.below ((Below.refl _ _).alloc (Nat.le_refl _) _)) hn).mono ?_
  rintro e w2 ⟨g, rfl, hc2, hb2⟩
  have hgB : w.heap.size + 1 ≤ g := by have h1 := hc2; obtain ⟨_, _, _, _, _, _, _, _, h, _⟩ := h1; simpa using h
  have hgl := hc2.lt
  have ZB := Lib.hid (show Blk w2 w.heap.size 38 [.int .i64 0, .int .i64 0, .int .i64 0, .int .i64 0, .int .i64 0, .int .i64 0, .int .i64 0, .int .i64 0, .string (bs []), .string (bs []), .string (bs []), .int .i64 0, .slice none 0 0, .int .i64 0, .slice none 0 0, .bool false].toArray from (blk_new w _ _).below hb2)
  have BW := Lib.hid (show Below w.heap.size w w2 from Below.trans ((Below.refl _ _).alloc (Nat.le_refl _) _) (hb2.mono (by simp <;> omega)))
  clear hb2
  have HC := Lib.hid hc2; clear hc2
  go_wp2_with fail
  refine (l8Insts_x _ g xs _ _ HC.out).mono ?_
  rintro e w3 ⟨l, A, q, k, s3, rfl, hq, hq6, hwt, hm, hc3, hg3⟩
  have hz3 := hg3.size
  have HQ := Lib.hid hq; clear hq
  have HWT := Lib.hid hwt; clear hwt
  have M1 := Lib.hid hm; clear hm HC
  have HC := Lib.hid hc3; clear hc3
  have X := Lib.hid (ZB.out.grown hg3 (by omega)); clear ZB
  have ZB := Lib.hid X.out; clear X
  have X := Lib.hid (BW.out.grown hg3 BW.out.size (fun k hk => by injection hk with hk; omega)); clear BW hg3
  have BW := Lib.hid X.out; clear X
  go_wp2_with fail
  refine (l8Insts_x _ g xs _ _ HC.out).mono ?_
  rintro e w4 ⟨l2, A2, q2, k2, s4, rfl, hq2, hq26, hwt2, hm2, hc4, hg4⟩
  have hz4 := hg4.size
  have HQ2 := Lib.hid hq2; clear hq2
  have HWT2 := Lib.hid hwt2; clear hwt2
  have M2 := Lib.hid hm2; clear hm2 HC
  have HC := Lib.hid hc4; clear hc4
  have X := Lib.hid (ZB.out.grown hg4 (by omega)); clear ZB
  have ZB := Lib.hid X.out; clear X
  have X := Lib.hid (mine_call M1.out hg4 hgl); clear M1
  have M1 := Lib.hid X.out; clear X
  have X := Lib.hid (BW.out.grown hg4 BW.out.size (fun k hk => by injection hk with hk; omega)); clear BW hg4
  have BW := Lib.hid X.out; clear X
  by_cases h0 : q2 = 0
  · subst h0
    go_wp2_with fail
    refine (l8DrawId_x _ g xs _ _ HC.out).mono ?_
    rintro e w5 ⟨⟨ir, iq⟩, s5, rfl, hc5, hg5⟩
    have X := Lib.hid (ZB.out.grown hg5 (by omega)); clear ZB
    have ZB := Lib.hid X.out; clear X
    have X := Lib.hid (mine_call M1.out hg5 hgl); clear M1
    have M1 := Lib.hid X.out; clear X
    have X := Lib.hid (BW.out.grown hg5 BW.out.size (fun k hk => by injection hk with hk; omega)); clear BW hg5 hc5
    have BW := Lib.hid X.out; clear X
    go_wp2_with (first | ((with_reducible show wpList _ _ _ ({ dst := _, op := Op.store 38 _ _, type := _, pos := _, after := _, guard := _ } :: _) _ _); refine wpList_store_row _ w.heap.size 38 0 [.int .i64 ir, .int .i64 iq, .int .i64 (-1), .int .i64 (-1), .int .i64 0, .int .i64 0, .int .i64 0, .int .i64 0, .string (bs []), .string (bs []), .string (bs []), .int .i64 0, .slice none 0 0, .int .i64 0, .slice none 0 0, .bool false] [] [.int .i64 0, .int .i64 0, .int .i64 0, .int .i64 0, .int .i64 0, .int .i64 0, .int .i64 0, .int .i64 0, .string (bs []), .string (bs []), .string (bs []), .int .i64 0, .slice none 0 0, .int .i64 0, .slice none 0 0, .bool false] [] _ rfl rfl agg_Inst ZB.out rfl rfl rfl (by simp [Value.oneCell']) ?_; intro v6 h6 g6) | fail)
    have b7 := BW.out.grown g6 BW.out.size (fun k hk => by injection hk with hk; omega)
    have m1 := mine_call M1.out g6 (by omega)
    exact bodyPost_tc rfl (.slice A q k) rfl ⟨w.heap.size, 0, none⟩ rfl [.int .i64 ir, .int .i64 iq, .int .i64 (-1), .int .i64 (-1), .int .i64 0, .int .i64 0, .int .i64 0, .int .i64 0, .string (bs []), .string (bs []), .string (bs []), .int .i64 0, .slice none 0 0, .int .i64 0, .slice none 0 0, .bool false] agg_Inst rfl (blk_cells (by simpa using h6)) rfl ⟨⟨l, InstD.mk ⟨ir, iq⟩ (-1) (-1) 0 zeroCmd 0 [] false, _, A, q, k, rfl, HQ.out, hq6, HWT.out, (by have h1 := inst_wt ⟨ir, iq⟩ (-1) (-1) 0 0 zeroCmd [] false; have h2 : zeroCmd.c.wt = 0 := rfl; simp only [List.length_nil] at h1; omega), m1.rep.any, rep_zeroI _ _ _ _ _, b7⟩⟩
  · have hb0 : ((q2 : Int) == 0) = false := by simp only [beq_eq_false_iff_ne]; omega
    have hq2p : 0 < q2 := by omega
    clear h0
    go_wp2
    obtain ⟨F2, hn2, ho2⟩ := M2.out
    obtain ⟨gM, _, _, rfl, hm1, hm2, _⟩ := own_putE InstD.width ho2 HQ2.out hn2 0 (by have := HQ2.out; omega)
    clear M2
    have HO2 := Lib.hid ho2; clear ho2
    refine wp_region_m (fun v => v.heap[gM]? = w4.heap[gM]?) 9 (.rd 0 (.rd 1 (.rd 2 (.rd 3 (.rd 4 (.act 5 (.rd 6 (.rd 7 (.rd 8 .leaf))))))))) [9] (by kernel_rfl) (by kernel_rfl) rfl ?_
    iterate 5 (refine wpM_bare rfl (by kernel_rfl) rfl rfl ?_; go_wp2; refine ⟨rfl, ?_⟩)
    refine wpM_act rfl ?_
    go_wp2_with fail
    refine (below_e _ g q2 xs _ _ (HC.out.keep (show w4.grownBy w4.drew none from ⟨rfl, rfl, rfl, Nat.le_refl _, fun _ _ _ => rfl⟩) (fun k hk => by cases hk)) (by omega) (by omega)).mono ?_
    rintro e w5 ⟨r, s5, hrq, rfl, hc5, hg5⟩
    have hM5 : w5.heap[gM]? = w4.heap[gM]? := hg5.block gM hm2 (fun e => by injection e with e; omega)
    have hri : (r : Int) < (q2 : Int) := by omega
    have ho5 : Own w5 w3.heap.size _ _ F2 := HO2.out.keep fun b hb => hg5.block b (HO2.out.in b hb).2 (fun e => by have := (HO2.out.in b hb).1; injection e with e; omega)
    obtain ⟨gM', ci, Fk, eM, _, _, _, _, hok, _, _, hcell, _⟩ := own_putE InstD.width ho5 HQ2.out hn2 r (by have := HQ2.out; omega)
    injection eM with eM
    injection eM with eM
    subst eM
    have HL := Lib.hid (show ci.length = 16 from hok.length.trans (InstD.width _))
    have HOK := Lib.hid hok; clear hok ho5
    have HCL := Lib.hid hcell; clear hcell
    have X := Lib.hid (ZB.out.drew.grown hg5 (by omega)); clear ZB
    have ZB := Lib.hid X.out; clear X
    have X := Lib.hid (mine_call (w := w4.drew) (M1.out.below (Below.refl _ _).drew) hg5 hgl); clear M1
    have M1 := Lib.hid X.out; clear X
    have X := Lib.hid (BW.out.drew.grown hg5 BW.out.size (fun k hk => by injection hk with hk; omega)); clear BW hg5 hc5 HC
    have BW := Lib.hid X.out; clear X
    go_wp2_with fail
    refine ⟨hM5, ?_⟩
    refine wpM_bare rfl (by kernel_rfl) rfl rfl ?_; go_wp2; refine ⟨rfl, ?_⟩
    refine wpM_read rfl rfl (.agg ci.toArray) (fun w' hw' => run_loadN rfl rfl (HL.out ▸ agg_Inst) (fun j v hv => by rw [add_plain]; exact cell_same (HCL.out j v hv) (hw'.trans hM5.symm))) ?_
    refine wpM_bare rfl (by kernel_rfl) rfl rfl ?_; go_wp2; refine ⟨rfl, ?_⟩
    refine wpM_nil ?_
    simp only [pickOps, List.getElem?_toArray, List.getElem?_cons_succ, List.getElem?_cons_zero]
    go_wp2_with (first | ((with_reducible show wpList _ _ _ ({ dst := _, op := Op.store 38 _ _, type := _, pos := _, after := _, guard := _ } :: _) _ _); refine wpList_store_row _ w.heap.size 38 0 ci [] [.int .i64 0, .int .i64 0, .int .i64 0, .int .i64 0, .int .i64 0, .int .i64 0, .int .i64 0, .int .i64 0, .string (bs []), .string (bs []), .string (bs []), .int .i64 0, .slice none 0 0, .int .i64 0, .slice none 0 0, .bool false] [] _ rfl rfl (HL.out ▸ agg_Inst) ZB.out rfl rfl HL.out.symm HOK.out.one ?_; intro v6 h6 g6) | fail)
    refine ⟨trivial, ?_⟩
    have HB7 := Lib.hid (BW.out.grown g6 BW.out.size (fun k hk => by injection hk with hk; omega))
    have HM1 := Lib.hid (mine_call M1.out g6 (by omega))
    have HRX := Lib.hid (HOK.out.keep (w' := v6) (fun b hb => g6.block b (HOK.out.in b hb).2 (fun e => by have := (HOK.out.in b hb).1; injection e with e; omega)))
    have H6 := Lib.hid (show Blk v6 w.heap.size 38 ci.toArray by simpa using h6); clear h6 g6
    go_wp2
    exact bodyPost_tc rfl (.slice A q k) rfl ⟨w.heap.size, 0, none⟩ rfl ci agg_Inst HL.out (blk_cells H6.out) rfl ⟨⟨l, _, ci, A, q, k, rfl, HQ.out, hq6, HWT.out, HWT2.out _ (List.getElem_mem (by have := HQ2.out; omega)), HM1.out.rep.any, HRX.out.repAny, HB7.out⟩⟩

end Go.Proofs.YtonaacdefidomaaGreat
