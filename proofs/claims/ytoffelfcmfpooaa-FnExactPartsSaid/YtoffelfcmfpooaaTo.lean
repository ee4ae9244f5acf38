/-
  The laws' helpers to*: copies of the arguments, in blocks of their own. Conditions: the argument is no greater than 1048576.
-/
import Derived.Test.YtoffelfcmfpooaaSz
namespace Go.Proofs.Ytoffelfcmfpooaa
open Go.RowKit

theorem own_blk {w : World} {base e size g n : Nat} {cells : List Value} (h : w.ownsRow base e size (.slice (some ⟨g, 0, none⟩) n n) n cells) : ∃ cur, Blk w g e cur ∧ cur.size = n * size := by
  rcases h.2 with ⟨h0, _⟩ | ⟨g', cap, cur, hv, _, hh, _, _, hs, _⟩
  · cases h0
  · injection hv with h1 _ h3
    injection h1 with h1
    injection h1 with h1
    subst h1 h3
    exact ⟨cur, hh, hs⟩
theorem blk_own {w : World} {base e size g n : Nat} {cells : List Value} {cur : Array Value} (hb : base ≤ g) (h : Blk w g e cur) (hn : n ≤ 1048576) (hs : cur.size = n * size) (hc : cur.toList = cells) : w.ownsRow base e size (.slice (some ⟨g, 0, none⟩) n n) n cells := by
  subst hc
  exact ⟨by simpa using hs, .inr ⟨g, n, cur, rfl, hb, h, Nat.le_refl _, by simp only [maxLen]; omega, hs, List.take_of_length_le (by simp [hs])⟩⟩
theorem Own.grown {w w' : World} {base g : Nat} {d : Cs} {cs : List Value} {F : List Nat} (h : Own w base d cs F) (hg : w.grownBy w' (some g)) (hb : g < base) : Own w' base d cs F :=
  h.keep fun b hm => hg.block b (h.in b hm).2 (fun e => by injection e with e; have := (h.in b hm).1; omega)
theorem blk3_0 (w : World) (c : Array Value) (e : Nat) (o1 o2 : Obj) : Blk (((w.alloc (.cells c e)).alloc o1).alloc o2) w.heap.size e c := ((blk_new w c e).alloc _).alloc _
theorem blk3_1 (w : World) (o : Obj) (c : Array Value) (e : Nat) (o2 : Obj) : Blk (((w.alloc o).alloc (.cells c e)).alloc o2) (w.heap.size + 1) e c := by
  have := (blk_new (w.alloc o) c e).alloc o2
  simpa using this
theorem blk3_2 (w : World) (o o1 : Obj) (c : Array Value) (e : Nat) : Blk (((w.alloc o).alloc o1).alloc (.cells c e)) (w.heap.size + 1 + 1) e c := by
  have := blk_new ((w.alloc o).alloc o1) c e
  simpa using this
theorem setCell_size (w : World) (a : Addr) (v : Value) : (w.setCell a v).heap.size = w.heap.size := by simp [World.setCell]
theorem blk_list {w : World} {g e : Nat} {L : List Value} (h : Blk w g e L.toArray) : Blk w g e L.toArray := h
theorem Own.setLow {w : World} {base : Nat} {d : Cs} {cs : List Value} {F : List Nat} (h : Own w base d cs F) {a : Addr} (ha : a.block < base) (v : Value) : Own (w.setCell a v) base d cs F :=
  h.keep fun b hm => Below.heap_setCell _ _ _ _ (fun e => by have := (h.in b hm).1; omega)

set_option maxRecDepth 100000 in
set_option maxHeartbeats 1000000 in
theorem toStringS_any' (xs : List (List UInt8)) (A : Option Addr) (n c : Nat) (w : World) (hn : n = xs.length) (hwt : n + (cat strC xs).wt ≤ 1048576) (h : Rep anyB w (.sl 9 1 n (cat strC xs) .nil) [.slice A n c]) :
    Calls Try.prog 69 #[.slice A n c] w fun e w' => ∃ A' c', e = .returned (.slice A' n c') ∧ Mine w' w.heap.size (.sl 9 1 n (cat strC xs) .nil) [.slice A' n c'] ∧ Below w.heap.size w w' := by
  subst hn
  refine (toStringS_any _ xs w (by omega) h.strs).mono fun e w' ⟨v', a, b, c⟩ => ?_
  obtain ⟨A', c', rfl, _⟩ := SlR.of_own b
  exact ⟨A', c', a, Mine.strs_mk rfl b, c⟩


set_option maxRecDepth 100000 in
set_option maxHeartbeats 1000000 in
theorem toId_any (x : IdD) (cs : List Value) (w : World) (hwt : x.c.wt ≤ 1048576) (h : Rep anyB w x.c cs) :
    Calls Try.prog 33 #[.agg cs.toArray] w fun e w' => ∃ cs', e = .returned (.agg cs'.toArray) ∧ Mine w' w.heap.size x.c cs' ∧ Below w.heap.size w w' := by
  obtain rfl := IdD.open h
  have hw0 : x.c.wt = 0 := rfl
  rw [hw0] at hwt
  clear hw0
  have HWT := Lib.hid hwt; clear hwt
  clear h
  go_enter Try.func33, Try.ntmps33
  go_wp2_with (first | ((with_reducible show wpList _ _ _ ({ dst := _, op := Op.load 36 _, type := _, pos := _, after := _, guard := _ } :: _) _ _); refine wpList_load_row _ ⟨(w.heap.size + 1 + 1), 0, none⟩ rfl [.int .i64 x.rep, .int .i64 x.slot] agg_Id rfl (blk_cells (blk3_2 _ _ _ _ _)) ?_) | ((with_reducible show wpList _ _ _ ({ dst := _, op := Op.store 36 _ _, type := _, pos := _, after := _, guard := _ } :: _) _ _); refine wpList_store_row _ (w.heap.size + 1) 36 0 [.int .i64 x.rep, .int .i64 x.slot] [] [.int .i64 0, .int .i64 0] [] _ rfl rfl agg_Id (blk_list (blk3_1 _ _ _ _ _)) rfl rfl rfl (by simp [Value.oneCell']) ?_; intro wz hbz hgz) | fail)
  refine bodyPost_cell rfl ⟨(w.heap.size + 1), 0, none⟩ rfl [.int .i64 x.rep, .int .i64 x.slot] agg_Id rfl (blk_cells hbz) rfl ⟨_, rfl, ⟨[], List.nodup_nil, IdD.shutO⟩, Below.grown (by repeat' (first | with_reducible exact Below.refl _ _ | with_reducible refine Below.alloc ?_ ?_ _ | (simp; done) | (simp; omega) | omega)) hgz (by first | (simp; done) | (simp; omega) | omega) (fun k hk => by injection hk; omega)⟩


set_option maxRecDepth 100000 in
set_option maxHeartbeats 1000000 in
theorem toCmd_any (x : CmdD) (cs : List Value) (w : World) (hwt : x.c.wt ≤ 1048576) (h : Rep anyB w x.c cs) :
    Calls Try.prog 34 #[.agg cs.toArray] w fun e w' => ∃ cs', e = .returned (.agg cs'.toArray) ∧ Mine w' w.heap.size x.c cs' ∧ Below w.heap.size w w' := by
  obtain ⟨A0, k0, rfl, s0⟩ := CmdD.open h
  have hw0 : x.c.wt = (x.set.length + (x.name.length + (x.tag.length + (x.chunks.length + (cat strC x.chunks).wt + 0)))) := rfl
  rw [hw0] at hwt
  clear hw0
  have S0 := Lib.hid s0; clear s0
  have HWT := Lib.hid hwt; clear hwt
  clear h
  go_enter Try.func34, Try.ntmps34
  go_wp2_with fail
  refine (toStringS_any' x.chunks _ _ _ _ rfl (by have := HWT.out; omega) (S0.out.below (by repeat' (first | with_reducible exact Below.refl _ _ | with_reducible refine Below.alloc ?_ ?_ _ | (simp; done) | (simp; omega) | omega)))).mono ?_; rintro e v1 ⟨A'0, k'0, rfl, ⟨F0, n0, o0⟩, hb⟩
  have HZ := Lib.hid (show w.heap.size + 1 + 1 + 1 ≤ _ from (Nat.le_trans (by simp) hb.size))
  skip
  have hlb := Blk.below (blk3_2 _ _ _ _ _) hb
  have hsb := Blk.below (blk3_0 _ _ _ _ _) hb
  have hzb2 := Blk.below (blk3_1 _ _ _ _ _) hb
  have hbw : Below w.heap.size w v1 := Below.trans (by repeat' (first | with_reducible exact Below.refl _ _ | with_reducible refine Below.alloc ?_ ?_ _ | (simp; done) | (simp; omega) | omega)) (hb.mono (by first | (simp; done) | (simp; omega) | omega))
  have o0 := o0.mono (base' := (w.heap.size + 1 + 1 + 1)) (by first | (simp; done) | (simp; omega) | omega)
  have N0 := Lib.hid n0; clear n0
  clear hb
  have LB := Lib.hid hlb; clear hlb
  have SB := Lib.hid hsb; clear hsb
  have ZB := Lib.hid hzb2; clear hzb2
  have BW := Lib.hid hbw; clear hbw
  have O0 := Lib.hid o0; clear o0
  have hfz : ∀ p, World.frozen? v1 ⟨(w.heap.size + 1 + 1), p, none⟩ = false := fun p => LB.out.frozen p
  obtain ⟨u7, hd7⟩ : ∃ u, World.cell? v1 ⟨(w.heap.size + 1 + 1), 7, none⟩ = some u := ⟨_, blk_cell0 LB.out 7 rfl⟩
  go_wp2_with (first | ((with_reducible show wpList _ _ _ ({ dst := _, op := Op.load 37 _, type := _, pos := _, after := _, guard := _ } :: _) _ _); refine wpList_load_row _ ⟨(w.heap.size + 1 + 1), 0, none⟩ rfl [.int .i64 x.kind, .int .i64 x.client, .int .i64 x.no, .string (bs x.set), .string (bs x.name), .string (bs x.tag), .int .i64 x.n, .slice A'0 x.chunks.length k'0] agg_Cmd rfl (blk_cells (blk_put0 LB.out 7 _)) ?_) | ((with_reducible show wpList _ _ _ ({ dst := _, op := Op.store 37 _ _, type := _, pos := _, after := _, guard := _ } :: _) _ _); refine wpList_store_row _ (w.heap.size + 1) 37 0 [.int .i64 x.kind, .int .i64 x.client, .int .i64 x.no, .string (bs x.set), .string (bs x.name), .string (bs x.tag), .int .i64 x.n, .slice A'0 x.chunks.length k'0] [] [.int .i64 0, .int .i64 0, .int .i64 0, .string ⟨#[]⟩, .string ⟨#[]⟩, .string ⟨#[]⟩, .int .i64 0, .slice none 0 0] [] _ rfl rfl agg_Cmd (blk_list (ZB.out.setOther (by first | (simp; done) | (simp; omega) | omega) _)) rfl rfl rfl (by simp [Value.oneCell']) ?_; intro wz hbz hgz) | fail)
  refine bodyPost_cell rfl ⟨(w.heap.size + 1), 0, none⟩ rfl [.int .i64 x.kind, .int .i64 x.client, .int .i64 x.no, .string (bs x.set), .string (bs x.name), .string (bs x.tag), .int .i64 x.n, .slice A'0 x.chunks.length k'0] agg_Cmd rfl (blk_cells hbz) rfl ⟨_, rfl, ⟨_, N0.out, CmdD.shutO (O0.out.above (Above.grown (by repeat' (first | with_reducible exact Above.refl _ _ | with_reducible refine Above.setCell ?_ ?_ _ | (simp; done) | (simp; omega) | omega)) hgz (by omega)) (by omega))⟩, Below.grown (by repeat' (first | with_reducible exact BW.out | with_reducible refine Below.setCell ?_ ?_ _ | (simp; done) | (simp; omega) | omega)) hgz (by simp only [setCell_size]; have := HZ.out; omega) (fun k hk => by injection hk; omega)⟩

















set_option maxRecDepth 100000 in
set_option maxHeartbeats 1000000 in
theorem toIdS_any (xs : List IdD) (A : Option Addr) (n c : Nat) (w : World) (hn : n = xs.length) (hwt : n + (cat IdD.c xs).wt ≤ 1048576) (h : Rep anyB w (.sl 36 2 n (cat IdD.c xs) .nil) [.slice A n c]) :
    Calls Try.prog 35 #[.slice A n c] w fun e w' => ∃ A' c', e = .returned (.slice A' n c') ∧ Mine w' w.heap.size (.sl 36 2 n (cat IdD.c xs) .nil) [.slice A' n c'] ∧ Below w.heap.size w w' := by
  have HR := Lib.hid h; clear h
  have HN := Lib.hid hn; clear hn
  have HWT := Lib.hid hwt; clear hwt
  have hn1 : n ≤ 1048576 := by have := HWT.out; omega
  go_enter Try.func35, Try.ntmps35
  go_wp2_with (at_make; refine wpList_mk E_Id _ rfl _ _ rfl w.heap.size .i64 .i64 _ _ n rfl rfl rfl rfl (by omega) (Nat.le_refl _) ?_; intro w1 hown1 hgrow1)
  obtain ⟨cur0, hblk0, hsz0⟩ := own_blk hown1
  have hbel0 : Below w.heap.size w w1 := (Below.refl _ _).grown hgrow1 (Nat.le_refl _) (by simp)
  clear hown1 hgrow1
  have K0 := Lib.hid hblk0; clear hblk0
  have K1 := Lib.hid hsz0; clear hsz0
  have K2 := Lib.hid hbel0; clear hbel0
  go_loopw [4] (fun ii wr => ∃ (j : Nat) (cur : Array Value) (done rest : List Value) (F : List Nat), j ≤ n ∧ ii = .int .i64 (j : Int) ∧ Blk wr w.heap.size 36 cur ∧ cur.toList = done ++ rest ∧ rest.length = (n - j) * 2 ∧ Own wr (w.heap.size + 1) (cat IdD.c (xs.take j)) done F ∧ F.Nodup ∧ Below w.heap.size w wr) (fun ii _ => n - (intOf ii).toNat)
  case atStart => exact ⟨0, cur0, [], cur0.toList, [], Nat.zero_le _, rfl, K0.out, rfl, by rw [Array.length_toList, K1.out]; rfl, by simp [cat, Own], List.nodup_nil, K2.out⟩
  case round =>
    obtain ⟨j, cur, done, rest, F, hj, rfl, hblk, hcur, hrest, hown, hnd, hbel⟩ := hrel
    have L0 := Lib.hid hblk; clear hblk
    have L1 := Lib.hid hcur; clear hcur
    have L2 := Lib.hid hrest; clear hrest
    have L3 := Lib.hid hown; clear hown
    have L4 := Lib.hid hnd; clear hnd
    have L5 := Lib.hid hbel; clear hbel
    clear K0 K1 K2
    by_cases hlt : j < n
    · have hjx : j < xs.length := by have := HN.out; omega
      obtain ⟨ad, ci, rfl, _, _, hrc, hl, hc⟩ := (HR.out.below L5.out).elem IdD.width j hjx HN.out
      have hst := cat_take_succ (f := IdD.c) xs j hjx
      have hsl := cat_wt_le (f := IdD.c) (List.getElem_mem hjx)
      generalize xs[j] = x at *
      have HL := Lib.hid hl; clear hl
      have HC := Lib.hid hc; clear hc
      have HRC := Lib.hid hrc; clear hrc
      have HST := Lib.hid hst; clear hst
      have HSL := Lib.hid hsl; clear hsl
      go_wp2_with (first | ((with_reducible show wpList _ _ _ ({ dst := _, op := Op.load 24 _, type := _, pos := _, after := _, guard := _ } :: _) _ _); refine wpList_load_row _ (ad.add (j * 2)) rfl ci agg_lId HL.out HC.out ?_) | fail)
      refine (toId_any x ci _ (by have := HWT.out; have := HSL.out; omega) HRC.out).mono ?_; rintro e w2 ⟨cs', rfl, ⟨F', n', o'⟩, hb⟩
      have N1 := Lib.hid n'; clear n'
      have O1 := Lib.hid o'; clear o'
      have CB := Lib.hid hb; clear hb
      have hrs := List.take_append_drop 2 rest
      have HRS := Lib.hid hrs; clear hrs
      have hol := O1.out.length
      rw [IdD.width] at hol
      have HOL := Lib.hid hol; clear hol
      go_wp2_with ((with_reducible show wpList _ _ _ ({ dst := _, op := Op.store 36 _ _, type := _, pos := _, after := _, guard := _ } :: _) _ _); refine wpList_store_row _ w.heap.size 36 (j * 2) cs' done (rest.take 2) (rest.drop 2) cur rfl rfl (HOL.out ▸ agg_Id) (L0.out.below CB.out) (by rw [HRS.out]; exact L1.out) (by rw [L3.out.length, cat_width IdD.width, List.length_take, Nat.min_eq_left (by omega)]) (by rw [HOL.out, List.length_take, L2.out, Nat.min_eq_left (by omega)]) O1.out.one ?_; intro w3 hb3 hg3)
      have hgx := L0.out.lt
      refine ⟨⟨j + 1, _, done ++ cs', rest.drop 2, F ++ F', by omega, by go_num, hb3, (List.append_assoc ..).symm, by rw [List.length_drop, L2.out]; omega, ?_, ?_, ?_⟩, by simp only [intOf]; omega⟩
      · rw [HST.out]
        exact Own.app.2 ⟨_, _, _, _, rfl, rfl, (L3.out.below CB.out).grown hg3 (Nat.lt_succ_self _), (O1.out.mono (by omega)).grown hg3 (Nat.lt_succ_self _)⟩
      · exact nodup_app (m := wr.heap.size) L4.out N1.out (fun b hb => (L3.out.in b hb).2) (fun b hb => (O1.out.in b hb).1)
      · exact (L5.out.trans (CB.out.mono L5.out.size)).grown hg3 (Nat.le_trans L5.out.size CB.out.size) (fun k hk => by injection hk with hk; omega)
    · have hjn : j = n := by omega
      subst hjn
      go_wp2
      go_ret
      refine ⟨_, _, rfl, ⟨w.heap.size :: F, List.nodup_cons.2 ⟨fun hm => by have := (L3.out.in _ hm).1; omega, L4.out⟩, Own.sl1.2 ⟨done, F, rfl, by rw [cat_width IdD.width, HN.out], ?_, ?_⟩⟩, L5.out⟩
      · refine blk_own (Nat.le_refl _) L0.out (by omega) ?_ ?_
        · have h1 := L1.out; have h2 := L2.out
          have h3 := L3.out.length
          rw [cat_width IdD.width, List.length_take, Nat.min_eq_left (by have := HN.out; omega)] at h3
          have h4 := congrArg List.length h1
          simp at h4
          simp at h2
          subst h2
          simpa [h3] using h4
        · have h1 := L1.out; have h2 := L2.out
          simp at h2
          subst h2
          simpa using h1
      · have h3 := L3.out
        rw [List.take_of_length_le (by have := HN.out; omega)] at h3
        exact h3.mono (Nat.le_succ _)





















































































































































































































































set_option maxRecDepth 100000 in
set_option maxHeartbeats 1000000 in
theorem toInst_any (x : InstD) (cs : List Value) (w : World) (hwt : x.c.wt ≤ 1048576) (h : Rep anyB w x.c cs) :
    Calls Try.prog 10 #[.agg cs.toArray] w fun e w' => ∃ cs', e = .returned (.agg cs'.toArray) ∧ Mine w' w.heap.size x.c cs' ∧ Below w.heap.size w w' := by
  obtain ⟨A0, k0, A1, k1, rfl, s0, s1⟩ := InstD.open h
  have hw0 : x.c.wt = (x.cmd.set.length + (x.cmd.name.length + (x.cmd.tag.length + (x.cmd.chunks.length + (cat strC x.cmd.chunks).wt + (x.deps.length + (cat IdD.c x.deps).wt + 0))))) := rfl
  rw [hw0] at hwt
  clear hw0
  have S0 := Lib.hid s0; clear s0
  have S1 := Lib.hid s1; clear s1
  have HWT := Lib.hid hwt; clear hwt
  clear h
  go_enter Try.func10, Try.ntmps10
  go_wp2_with fail
  refine (toId_any x.id _ _ (by have := HWT.out; have e0 : x.id.c.wt = 0 := rfl; omega) (IdD.shut)).mono ?_; rintro e v1 ⟨cs', rfl, ⟨F, n, o⟩, hb⟩
  obtain ⟨rfl, rfl⟩ := IdD.openO o
  clear o n
  have HZ := Lib.hid (show w.heap.size + 1 + 1 + 1 ≤ _ from (Nat.le_trans (by simp) hb.size))
  skip
  have hlb := Blk.below (blk3_2 _ _ _ _ _) hb
  have hsb := Blk.below (blk3_0 _ _ _ _ _) hb
  have hzb2 := Blk.below (blk3_1 _ _ _ _ _) hb
  have hbw : Below w.heap.size w v1 := Below.trans (by repeat' (first | with_reducible exact Below.refl _ _ | with_reducible refine Below.alloc ?_ ?_ _ | (simp; done) | (simp; omega) | omega)) (hb.mono (by first | (simp; done) | (simp; omega) | omega))
  clear hb
  have LB := Lib.hid hlb; clear hlb
  have SB := Lib.hid hsb; clear hsb
  have ZB := Lib.hid hzb2; clear hzb2
  have BW := Lib.hid hbw; clear hbw
  have hfz : ∀ p, World.frozen? v1 ⟨(w.heap.size + 1 + 1), p, none⟩ = false := fun p => LB.out.frozen p
  have hs2 : World.cell? v1 ⟨w.heap.size, 2, none⟩ = some (.int .i64 x.bal) := blk_cell0 SB.out 2 rfl
  have hs3 : World.cell? v1 ⟨w.heap.size, 3, none⟩ = some (.int .i64 x.vbal) := blk_cell0 SB.out 3 rfl
  have hs4 : World.cell? v1 ⟨w.heap.size, 4, none⟩ = some (.int .i64 x.status) := blk_cell0 SB.out 4 rfl
  have hs5 : World.cell? v1 ⟨w.heap.size, 5, none⟩ = some (.int .i64 x.cmd.kind) := blk_cell0 SB.out 5 rfl
  have hs6 : World.cell? v1 ⟨w.heap.size, 6, none⟩ = some (.int .i64 x.cmd.client) := blk_cell0 SB.out 6 rfl
  have hs7 : World.cell? v1 ⟨w.heap.size, 7, none⟩ = some (.int .i64 x.cmd.no) := blk_cell0 SB.out 7 rfl
  have hs8 : World.cell? v1 ⟨w.heap.size, 8, none⟩ = some (.string (bs x.cmd.set)) := blk_cell0 SB.out 8 rfl
  have hs9 : World.cell? v1 ⟨w.heap.size, 9, none⟩ = some (.string (bs x.cmd.name)) := blk_cell0 SB.out 9 rfl
  have hs10 : World.cell? v1 ⟨w.heap.size, 10, none⟩ = some (.string (bs x.cmd.tag)) := blk_cell0 SB.out 10 rfl
  have hs11 : World.cell? v1 ⟨w.heap.size, 11, none⟩ = some (.int .i64 x.cmd.n) := blk_cell0 SB.out 11 rfl
  have hs12 : World.cell? v1 ⟨w.heap.size, 12, none⟩ = some (.slice A0 x.cmd.chunks.length k0) := blk_cell0 SB.out 12 rfl
  obtain ⟨u0, hd0⟩ : ∃ u, World.cell? v1 ⟨(w.heap.size + 1 + 1), 0, none⟩ = some u := ⟨_, blk_cell0 LB.out 0 rfl⟩
  obtain ⟨u1, hd1⟩ : ∃ u, World.cell? v1 ⟨(w.heap.size + 1 + 1), 1, none⟩ = some u := ⟨_, blk_cell0 LB.out 1 rfl⟩
  obtain ⟨u2, hd2⟩ : ∃ u, World.cell? v1 ⟨(w.heap.size + 1 + 1), 2, none⟩ = some u := ⟨_, blk_cell0 LB.out 2 rfl⟩
  obtain ⟨u3, hd3⟩ : ∃ u, World.cell? v1 ⟨(w.heap.size + 1 + 1), 3, none⟩ = some u := ⟨_, blk_cell0 LB.out 3 rfl⟩
  obtain ⟨u4, hd4⟩ : ∃ u, World.cell? v1 ⟨(w.heap.size + 1 + 1), 4, none⟩ = some u := ⟨_, blk_cell0 LB.out 4 rfl⟩
  go_wp2_with fail
  refine (toCmd_any x.cmd _ _ (by have := HWT.out; have e0 : x.cmd.c.wt = (x.cmd.set.length + (x.cmd.name.length + (x.cmd.tag.length + (x.cmd.chunks.length + (cat strC x.cmd.chunks).wt + 0)))) := rfl; omega) (CmdD.shut (S0.out.below (by repeat' (first | with_reducible exact BW.out | with_reducible refine Below.setCell ?_ ?_ _ | (simp; done) | (simp; omega) | omega))))).mono ?_; rintro e v2 ⟨cs', rfl, ⟨F, n, o⟩, hb⟩
  obtain ⟨A'0, k'0, F0, rfl, rfl, o0⟩ := CmdD.openO o
  have n0 := n
  clear o n
  have hzb := hb.size
  simp only [setCell_size] at hzb
  have hlb := Blk.below (blk_put0 (blk_put0 (blk_put0 (blk_put0 (blk_put0 LB.out 0 _) 1 _) 2 _) 3 _) 4 _) hb
  have hsb := Blk.below (((((SB.out.setOther (by first | (simp; done) | (simp; omega) | omega) _).setOther (by first | (simp; done) | (simp; omega) | omega) _).setOther (by first | (simp; done) | (simp; omega) | omega) _).setOther (by first | (simp; done) | (simp; omega) | omega) _).setOther (by first | (simp; done) | (simp; omega) | omega) _) hb
  have hzb2 := Blk.below (((((ZB.out.setOther (by first | (simp; done) | (simp; omega) | omega) _).setOther (by first | (simp; done) | (simp; omega) | omega) _).setOther (by first | (simp; done) | (simp; omega) | omega) _).setOther (by first | (simp; done) | (simp; omega) | omega) _).setOther (by first | (simp; done) | (simp; omega) | omega) _) hb
  have hbw : Below w.heap.size w v2 := Below.trans (by repeat' (first | with_reducible exact BW.out | with_reducible refine Below.setCell ?_ ?_ _ | (simp; done) | (simp; omega) | omega)) (hb.mono (by simp only [setCell_size]; have := HZ.out; omega))
  have o0 := o0.mono (base' := (w.heap.size + 1 + 1 + 1)) (by simp only [setCell_size]; have := HZ.out; omega)
  have N0 := Lib.hid n0; clear n0
  clear hb hs2 hs3 hs4 hs5 hs6 hs7 hs8 hs9 hs10 hs11 hs12 hd0 hd1 hd2 hd3 hd4 hfz
  have HZ' := Lib.hid (Nat.le_trans HZ.out hzb); clear HZ hzb
  have HZ := Lib.hid HZ'.out; clear HZ'
  have X := Lib.hid hlb; clear LB hlb
  have LB := Lib.hid X.out; clear X
  have X := Lib.hid hsb; clear SB hsb
  have SB := Lib.hid X.out; clear X
  have X := Lib.hid hzb2; clear ZB hzb2
  have ZB := Lib.hid X.out; clear X
  have X := Lib.hid hbw; clear BW hbw
  have BW := Lib.hid X.out; clear X
  have O0 := Lib.hid o0; clear o0
  have hfz : ∀ p, World.frozen? v2 ⟨(w.heap.size + 1 + 1), p, none⟩ = false := fun p => LB.out.frozen p
  have hs13 : World.cell? v2 ⟨w.heap.size, 13, none⟩ = some (.int .i64 x.seq) := blk_cell0 SB.out 13 rfl
  have hs14 : World.cell? v2 ⟨w.heap.size, 14, none⟩ = some (.slice A1 x.deps.length k1) := blk_cell0 SB.out 14 rfl
  obtain ⟨u5, hd5⟩ : ∃ u, World.cell? v2 ⟨(w.heap.size + 1 + 1), 5, none⟩ = some u := ⟨_, blk_cell0 LB.out 5 rfl⟩
  obtain ⟨u6, hd6⟩ : ∃ u, World.cell? v2 ⟨(w.heap.size + 1 + 1), 6, none⟩ = some u := ⟨_, blk_cell0 LB.out 6 rfl⟩
  obtain ⟨u7, hd7⟩ : ∃ u, World.cell? v2 ⟨(w.heap.size + 1 + 1), 7, none⟩ = some u := ⟨_, blk_cell0 LB.out 7 rfl⟩
  obtain ⟨u8, hd8⟩ : ∃ u, World.cell? v2 ⟨(w.heap.size + 1 + 1), 8, none⟩ = some u := ⟨_, blk_cell0 LB.out 8 rfl⟩
  obtain ⟨u9, hd9⟩ : ∃ u, World.cell? v2 ⟨(w.heap.size + 1 + 1), 9, none⟩ = some u := ⟨_, blk_cell0 LB.out 9 rfl⟩
  obtain ⟨u10, hd10⟩ : ∃ u, World.cell? v2 ⟨(w.heap.size + 1 + 1), 10, none⟩ = some u := ⟨_, blk_cell0 LB.out 10 rfl⟩
  obtain ⟨u11, hd11⟩ : ∃ u, World.cell? v2 ⟨(w.heap.size + 1 + 1), 11, none⟩ = some u := ⟨_, blk_cell0 LB.out 11 rfl⟩
  obtain ⟨u12, hd12⟩ : ∃ u, World.cell? v2 ⟨(w.heap.size + 1 + 1), 12, none⟩ = some u := ⟨_, blk_cell0 LB.out 12 rfl⟩
  obtain ⟨u13, hd13⟩ : ∃ u, World.cell? v2 ⟨(w.heap.size + 1 + 1), 13, none⟩ = some u := ⟨_, blk_cell0 LB.out 13 rfl⟩
  go_wp2_with fail
  refine (toIdS_any x.deps _ _ _ _ rfl (by have := HWT.out; omega) (S1.out.below (by repeat' (first | with_reducible exact BW.out | with_reducible refine Below.setCell ?_ ?_ _ | (simp; done) | (simp; omega) | omega)))).mono ?_; rintro e v3 ⟨A'1, k'1, rfl, ⟨F1, n1, o1⟩, hb⟩
  have hzb := hb.size
  simp only [setCell_size] at hzb
  have hlb := Blk.below (blk_put0 (blk_put0 (blk_put0 (blk_put0 (blk_put0 (blk_put0 (blk_put0 (blk_put0 (blk_put0 LB.out 5 _) 6 _) 7 _) 8 _) 9 _) 10 _) 11 _) 12 _) 13 _) hb
  have hsb := Blk.below (((((((((SB.out.setOther (by first | (simp; done) | (simp; omega) | omega) _).setOther (by first | (simp; done) | (simp; omega) | omega) _).setOther (by first | (simp; done) | (simp; omega) | omega) _).setOther (by first | (simp; done) | (simp; omega) | omega) _).setOther (by first | (simp; done) | (simp; omega) | omega) _).setOther (by first | (simp; done) | (simp; omega) | omega) _).setOther (by first | (simp; done) | (simp; omega) | omega) _).setOther (by first | (simp; done) | (simp; omega) | omega) _).setOther (by first | (simp; done) | (simp; omega) | omega) _) hb
  have hzb2 := Blk.below (((((((((ZB.out.setOther (by first | (simp; done) | (simp; omega) | omega) _).setOther (by first | (simp; done) | (simp; omega) | omega) _).setOther (by first | (simp; done) | (simp; omega) | omega) _).setOther (by first | (simp; done) | (simp; omega) | omega) _).setOther (by first | (simp; done) | (simp; omega) | omega) _).setOther (by first | (simp; done) | (simp; omega) | omega) _).setOther (by first | (simp; done) | (simp; omega) | omega) _).setOther (by first | (simp; done) | (simp; omega) | omega) _).setOther (by first | (simp; done) | (simp; omega) | omega) _) hb
  have hbw : Below w.heap.size w v3 := Below.trans (by repeat' (first | with_reducible exact BW.out | with_reducible refine Below.setCell ?_ ?_ _ | (simp; done) | (simp; omega) | omega)) (hb.mono (by simp only [setCell_size]; have := HZ.out; omega))
  have o0 := O0.out.above (Above.below (by repeat' (first | with_reducible exact Above.refl _ _ | with_reducible refine Above.setCell ?_ ?_ _ | (simp; done) | (simp; omega) | omega)) hb) (Nat.le_refl _)
  have nd := nodup_app N0.out n1 (fun b hb => ((O0.out.above (by repeat' (first | with_reducible exact Above.refl _ _ | with_reducible refine Above.setCell ?_ ?_ _ | (simp; done) | (simp; omega) | omega)) (Nat.le_refl _)).in b hb).2) (fun b hb => (o1.in b hb).1)
  have ND := Lib.hid nd; clear nd
  have o1 := o1.mono (base' := (w.heap.size + 1 + 1 + 1)) (by simp only [setCell_size]; have := HZ.out; omega)
  have N1 := Lib.hid n1; clear n1
  clear hb hs13 hs14 hd5 hd6 hd7 hd8 hd9 hd10 hd11 hd12 hd13 hfz
  have HZ' := Lib.hid (Nat.le_trans HZ.out hzb); clear HZ hzb
  have HZ := Lib.hid HZ'.out; clear HZ'
  have X := Lib.hid hlb; clear LB hlb
  have LB := Lib.hid X.out; clear X
  have X := Lib.hid hsb; clear SB hsb
  have SB := Lib.hid X.out; clear X
  have X := Lib.hid hzb2; clear ZB hzb2
  have ZB := Lib.hid X.out; clear X
  have X := Lib.hid hbw; clear BW hbw
  have BW := Lib.hid X.out; clear X
  have X := Lib.hid o0; clear O0 o0
  have O0 := Lib.hid X.out; clear X
  have O1 := Lib.hid o1; clear o1
  have hfz : ∀ p, World.frozen? v3 ⟨(w.heap.size + 1 + 1), p, none⟩ = false := fun p => LB.out.frozen p
  have hs15 : World.cell? v3 ⟨w.heap.size, 15, none⟩ = some (.bool x.same) := blk_cell0 SB.out 15 rfl
  obtain ⟨u14, hd14⟩ : ∃ u, World.cell? v3 ⟨(w.heap.size + 1 + 1), 14, none⟩ = some u := ⟨_, blk_cell0 LB.out 14 rfl⟩
  obtain ⟨u15, hd15⟩ : ∃ u, World.cell? v3 ⟨(w.heap.size + 1 + 1), 15, none⟩ = some u := ⟨_, blk_cell0 LB.out 15 rfl⟩
  go_wp2_with (first | ((with_reducible show wpList _ _ _ ({ dst := _, op := Op.load 40 _, type := _, pos := _, after := _, guard := _ } :: _) _ _); refine wpList_load_row _ ⟨(w.heap.size + 1 + 1), 0, none⟩ rfl [.int .i64 x.id.rep, .int .i64 x.id.slot, .int .i64 x.bal, .int .i64 x.vbal, .int .i64 x.status, .int .i64 x.cmd.kind, .int .i64 x.cmd.client, .int .i64 x.cmd.no, .string (bs x.cmd.set), .string (bs x.cmd.name), .string (bs x.cmd.tag), .int .i64 x.cmd.n, .slice A'0 x.cmd.chunks.length k'0, .int .i64 x.seq, .slice A'1 x.deps.length k'1, .bool x.same] agg_Inst rfl (blk_cells (blk_put0 (blk_put0 LB.out 14 _) 15 _)) ?_) | ((with_reducible show wpList _ _ _ ({ dst := _, op := Op.store 40 _ _, type := _, pos := _, after := _, guard := _ } :: _) _ _); refine wpList_store_row _ (w.heap.size + 1) 40 0 [.int .i64 x.id.rep, .int .i64 x.id.slot, .int .i64 x.bal, .int .i64 x.vbal, .int .i64 x.status, .int .i64 x.cmd.kind, .int .i64 x.cmd.client, .int .i64 x.cmd.no, .string (bs x.cmd.set), .string (bs x.cmd.name), .string (bs x.cmd.tag), .int .i64 x.cmd.n, .slice A'0 x.cmd.chunks.length k'0, .int .i64 x.seq, .slice A'1 x.deps.length k'1, .bool x.same] [] [.int .i64 0, .int .i64 0, .int .i64 0, .int .i64 0, .int .i64 0, .int .i64 0, .int .i64 0, .int .i64 0, .string ⟨#[]⟩, .string ⟨#[]⟩, .string ⟨#[]⟩, .int .i64 0, .slice none 0 0, .int .i64 0, .slice none 0 0, .bool false] [] _ rfl rfl agg_Inst (blk_list ((ZB.out.setOther (by first | (simp; done) | (simp; omega) | omega) _).setOther (by first | (simp; done) | (simp; omega) | omega) _)) rfl rfl rfl (by simp [Value.oneCell']) ?_; intro wz hbz hgz) | fail)
  refine bodyPost_cell rfl ⟨(w.heap.size + 1), 0, none⟩ rfl [.int .i64 x.id.rep, .int .i64 x.id.slot, .int .i64 x.bal, .int .i64 x.vbal, .int .i64 x.status, .int .i64 x.cmd.kind, .int .i64 x.cmd.client, .int .i64 x.cmd.no, .string (bs x.cmd.set), .string (bs x.cmd.name), .string (bs x.cmd.tag), .int .i64 x.cmd.n, .slice A'0 x.cmd.chunks.length k'0, .int .i64 x.seq, .slice A'1 x.deps.length k'1, .bool x.same] agg_Inst rfl (blk_cells hbz) rfl ⟨_, rfl, ⟨_, ND.out, InstD.shutO (O0.out.above (Above.grown (by repeat' (first | with_reducible exact Above.refl _ _ | with_reducible refine Above.setCell ?_ ?_ _ | (simp; done) | (simp; omega) | omega)) hgz (by omega)) (by omega)) (O1.out.above (Above.grown (by repeat' (first | with_reducible exact Above.refl _ _ | with_reducible refine Above.setCell ?_ ?_ _ | (simp; done) | (simp; omega) | omega)) hgz (by omega)) (by omega))⟩, Below.grown (by repeat' (first | with_reducible exact BW.out | with_reducible refine Below.setCell ?_ ?_ _ | (simp; done) | (simp; omega) | omega)) hgz (by simp only [setCell_size]; have := HZ.out; omega) (fun k hk => by injection hk; omega)⟩


set_option maxRecDepth 100000 in
set_option maxHeartbeats 1000000 in
theorem toInstS_any (xs : List InstD) (A : Option Addr) (n c : Nat) (w : World) (hn : n = xs.length) (hwt : n + (cat InstD.c xs).wt ≤ 1048576) (h : Rep anyB w (.sl 40 16 n (cat InstD.c xs) .nil) [.slice A n c]) :
    Calls Try.prog 9 #[.slice A n c] w fun e w' => ∃ A' c', e = .returned (.slice A' n c') ∧ Mine w' w.heap.size (.sl 40 16 n (cat InstD.c xs) .nil) [.slice A' n c'] ∧ Below w.heap.size w w' := by
  have HR := Lib.hid h; clear h
  have HN := Lib.hid hn; clear hn
  have HWT := Lib.hid hwt; clear hwt
  have hn1 : n ≤ 1048576 := by have := HWT.out; omega
  go_enter Try.func9, Try.ntmps9
  go_wp2_with (at_make; refine wpList_mk E_Inst _ rfl _ _ rfl w.heap.size .i64 .i64 _ _ n rfl rfl rfl rfl (by omega) (Nat.le_refl _) ?_; intro w1 hown1 hgrow1)
  obtain ⟨cur0, hblk0, hsz0⟩ := own_blk hown1
  have hbel0 : Below w.heap.size w w1 := (Below.refl _ _).grown hgrow1 (Nat.le_refl _) (by simp)
  clear hown1 hgrow1
  have K0 := Lib.hid hblk0; clear hblk0
  have K1 := Lib.hid hsz0; clear hsz0
  have K2 := Lib.hid hbel0; clear hbel0
  go_loopw [4] (fun ii wr => ∃ (j : Nat) (cur : Array Value) (done rest : List Value) (F : List Nat), j ≤ n ∧ ii = .int .i64 (j : Int) ∧ Blk wr w.heap.size 40 cur ∧ cur.toList = done ++ rest ∧ rest.length = (n - j) * 16 ∧ Own wr (w.heap.size + 1) (cat InstD.c (xs.take j)) done F ∧ F.Nodup ∧ Below w.heap.size w wr) (fun ii _ => n - (intOf ii).toNat)
  case atStart => exact ⟨0, cur0, [], cur0.toList, [], Nat.zero_le _, rfl, K0.out, rfl, by rw [Array.length_toList, K1.out]; rfl, by simp [cat, Own], List.nodup_nil, K2.out⟩
  case round =>
    obtain ⟨j, cur, done, rest, F, hj, rfl, hblk, hcur, hrest, hown, hnd, hbel⟩ := hrel
    have L0 := Lib.hid hblk; clear hblk
    have L1 := Lib.hid hcur; clear hcur
    have L2 := Lib.hid hrest; clear hrest
    have L3 := Lib.hid hown; clear hown
    have L4 := Lib.hid hnd; clear hnd
    have L5 := Lib.hid hbel; clear hbel
    clear K0 K1 K2
    by_cases hlt : j < n
    · have hjx : j < xs.length := by have := HN.out; omega
      obtain ⟨ad, ci, rfl, _, _, hrc, hl, hc⟩ := (HR.out.below L5.out).elem InstD.width j hjx HN.out
      have hst := cat_take_succ (f := InstD.c) xs j hjx
      have hsl := cat_wt_le (f := InstD.c) (List.getElem_mem hjx)
      generalize xs[j] = x at *
      have HL := Lib.hid hl; clear hl
      have HC := Lib.hid hc; clear hc
      have HRC := Lib.hid hrc; clear hrc
      have HST := Lib.hid hst; clear hst
      have HSL := Lib.hid hsl; clear hsl
      go_wp2_with (first | ((with_reducible show wpList _ _ _ ({ dst := _, op := Op.load 30 _, type := _, pos := _, after := _, guard := _ } :: _) _ _); refine wpList_load_row _ (ad.add (j * 16)) rfl ci agg_lInst HL.out HC.out ?_) | fail)
      refine (toInst_any x ci _ (by have := HWT.out; have := HSL.out; omega) HRC.out).mono ?_; rintro e w2 ⟨cs', rfl, ⟨F', n', o'⟩, hb⟩
      have N1 := Lib.hid n'; clear n'
      have O1 := Lib.hid o'; clear o'
      have CB := Lib.hid hb; clear hb
      have hrs := List.take_append_drop 16 rest
      have HRS := Lib.hid hrs; clear hrs
      have hol := O1.out.length
      rw [InstD.width] at hol
      have HOL := Lib.hid hol; clear hol
      go_wp2_with ((with_reducible show wpList _ _ _ ({ dst := _, op := Op.store 40 _ _, type := _, pos := _, after := _, guard := _ } :: _) _ _); refine wpList_store_row _ w.heap.size 40 (j * 16) cs' done (rest.take 16) (rest.drop 16) cur rfl rfl (HOL.out ▸ agg_Inst) (L0.out.below CB.out) (by rw [HRS.out]; exact L1.out) (by rw [L3.out.length, cat_width InstD.width, List.length_take, Nat.min_eq_left (by omega)]) (by rw [HOL.out, List.length_take, L2.out, Nat.min_eq_left (by omega)]) O1.out.one ?_; intro w3 hb3 hg3)
      have hgx := L0.out.lt
      refine ⟨⟨j + 1, _, done ++ cs', rest.drop 16, F ++ F', by omega, by go_num, hb3, (List.append_assoc ..).symm, by rw [List.length_drop, L2.out]; omega, ?_, ?_, ?_⟩, by simp only [intOf]; omega⟩
      · rw [HST.out]
        exact Own.app.2 ⟨_, _, _, _, rfl, rfl, (L3.out.below CB.out).grown hg3 (Nat.lt_succ_self _), (O1.out.mono (by omega)).grown hg3 (Nat.lt_succ_self _)⟩
      · exact nodup_app (m := wr.heap.size) L4.out N1.out (fun b hb => (L3.out.in b hb).2) (fun b hb => (O1.out.in b hb).1)
      · exact (L5.out.trans (CB.out.mono L5.out.size)).grown hg3 (Nat.le_trans L5.out.size CB.out.size) (fun k hk => by injection hk with hk; omega)
    · have hjn : j = n := by omega
      subst hjn
      go_wp2
      go_ret
      refine ⟨_, _, rfl, ⟨w.heap.size :: F, List.nodup_cons.2 ⟨fun hm => by have := (L3.out.in _ hm).1; omega, L4.out⟩, Own.sl1.2 ⟨done, F, rfl, by rw [cat_width InstD.width, HN.out], ?_, ?_⟩⟩, L5.out⟩
      · refine blk_own (Nat.le_refl _) L0.out (by omega) ?_ ?_
        · have h1 := L1.out; have h2 := L2.out
          have h3 := L3.out.length
          rw [cat_width InstD.width, List.length_take, Nat.min_eq_left (by have := HN.out; omega)] at h3
          have h4 := congrArg List.length h1
          simp at h4
          simp at h2
          subst h2
          simpa [h3] using h4
        · have h1 := L1.out; have h2 := L2.out
          simp at h2
          subst h2
          simpa using h1
      · have h3 := L3.out
        rw [List.take_of_length_le (by have := HN.out; omega)] at h3
        exact h3.mono (Nat.le_succ _)






















































































































end Go.Proofs.Ytoffelfcmfpooaa
