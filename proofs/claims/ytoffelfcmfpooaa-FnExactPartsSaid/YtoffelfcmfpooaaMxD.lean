/-
  The order of a component: impl's closure, slices.SortFunc with it. Conditions: right instances; the rows as named.
  The component of an Id that is ready: impl.part. Conditions: the Id is ready; right instances; a bound on the sizes.
  Is a component free: impl.isFree. Conditions: right instances; bounds on the sizes.
  Rows of instances made anew: copyInsts, l8CopyAll. Conditions: a bound on the sizes.
  Components in their order: spec.Parts. Conditions: a bound on the sizes.
  A library function laid at this program, in plain words (printed by the kit's tool). No condition.
  slices.Delete, IndexFunc and ContainsFunc at rows of components. Conditions: as named.
  impl.Parts: its closures; how its second loop stands. Conditions: as named.
  Components in their order: impl.Parts. Conditions: a bound on the sizes.
  Execution order: the components, one behind another; spec and impl. Conditions: a bound on the sizes.
  How many marks a datum takes, by its weight. No condition.
  How many marks a command takes, by its weight. No condition.
-/
import Derived.Test.YtoffelfcmfpooaaMxA
import Derived.Test.YtoffelfcmfpooaaMxC
import Derived.Test.YtoffelfcmfpooaaCpyI
import Derived.Test.YtoffelfcmfpooaaCpyIS
import Derived.Test.YtoffelfcmfpooaaJoin
import Derived.Great.BuildSlice
import Derived.Shelf.SlicesE.Delete
import Derived.Ground.SlgnProg
import Derived.Test.YtoffelfcmfpooaaProg
import Derived.Test.YtoffelfcmfpooaaTy
set_option linter.unusedVariables false
set_option linter.unusedSimpArgs false
namespace Go.Proofs.Ytoffelfcmfpooaa
open Go.RowKit Go.Shelf Go.Lib Go.Sort

theorem grow_of_below {w w' : World} (h : Go.RowKit.Below w.heap.size w w') (hd : w.drawn ≤ w'.drawn) : ∃ (q : Nat) (os' : Array Obj), w' = grow (w.drewN q) os' := by
  refine ⟨w'.drawn - w.drawn, w'.heap.extract w.heap.size w'.heap.size, ?_⟩
  have hh : w'.heap = w.heap ++ w'.heap.extract w.heap.size w'.heap.size := by
    apply Array.ext_getElem?
    intro i
    by_cases hi : i < w.heap.size
    · rw [Array.getElem?_append_left hi]; exact h.block i hi
    · rw [Array.getElem?_append_right (by omega), Array.getElem?_extract]
      split
      · congr 1; omega
      · exact Array.getElem?_eq_none (by omega)
  obtain ⟨heap, tape, drawn, os, output⟩ := w
  obtain ⟨heap', tape', drawn', os', output'⟩ := w'
  have h1 := h.os
  have h2 := h.tape
  have h3 := h.output
  simp only [] at h1 h2 h3 hh hd
  subst h1 h2 h3
  unfold grow World.drewN
  simp only [World.mk.injEq, true_and, and_true]
  exact ⟨hh, by omega⟩
theorem below_of_grow {w : World} {q : Nat} {os' : Array Obj} : Go.RowKit.Below w.heap.size w (grow (w.drewN q) os') ∧ w.drawn ≤ (grow (w.drewN q) os').drawn := by
  refine ⟨⟨rfl, rfl, rfl, ?_, fun k hk => ?_⟩, Nat.le_add_right _ _⟩
  · show w.heap.size ≤ (w.heap ++ os').size
    rw [Array.size_append]; omega
  · show (w.heap ++ os')[k]? = _
    rw [Array.getElem?_append_left hk]
theorem fld_seq (a0 a1 a2 a3 a4 a5 a6 a7 a8 a9 a10 a11 a12 a13 a14 a15 : Value) (w : World) : (Instr.field 40 (.agg #[a0, a1, a2, a3, a4, a5, a6, a7, a8, a9, a10, a11, a12, a13, a14, a15]) 5).run Try.prog w = .ok a13 w := by
  kernel_rfl
def cmpP (xs : List InstD) (x y : IdD) : Int := if seqI xs x = seqI xs y then idCmp x y else seqI xs x - seqI xs y
theorem cmpP_lt {xs : List InstD} {x y : IdD} : cmpP xs x y < 0 ↔ ltP xs x y := by
  unfold cmpP ltP
  split
  · rename_i h
    constructor
    · intro hh; exact .inr ⟨h, idCmp_lt.1 hh⟩
    · rintro (hh | ⟨_, hh⟩)
      · omega
      · exact idCmp_lt.2 hh
  · rename_i h
    constructor
    · intro hh; exact .inl (by omega)
    · rintro (hh | ⟨hh, _⟩) <;> omega
theorem ltOf_P (xs : List InstD) (x y : IdD) : ltOf (cmpP xs) x y = true ↔ ltP xs x y := by
  unfold ltOf
  rw [decide_eq_true_eq]
  exact cmpP_lt
theorem ltP_trans {xs : List InstD} {x y z : IdD} (h : ltP xs x y) (k : ltP xs y z) : ltP xs x z := by
  rcases h with h | ⟨h1, h2⟩ <;> rcases k with k | ⟨k1, k2⟩
  · exact .inl (by omega)
  · exact .inl (by omega)
  · exact .inl (by omega)
  · exact .inr ⟨by omega, idLt_trans h2 k2⟩
theorem swo_P (xs : List InstD) : SWO (ltOf (cmpP xs)) where
  irrefl x := by
    cases h : ltOf (cmpP xs) x x with
    | false => rfl
    | true => exact absurd ((ltOf_P xs x x).1 h) ltP_irrefl
  trans x y z h1 h2 := (ltOf_P xs x z).2 (ltP_trans ((ltOf_P xs x y).1 h1) ((ltOf_P xs y z).1 h2))
  ntrans x y z h1 h2 := by
    have n1 : ¬ ltP xs x y := fun e => by rw [(ltOf_P xs x y).2 e] at h1; cases h1
    have n2 : ¬ ltP xs y z := fun e => by rw [(ltOf_P xs y z).2 e] at h2; cases h2
    cases h : ltOf (cmpP xs) x z with
    | false => rfl
    | true =>
      have h3 := (ltOf_P xs x z).1 h
      exfalso
      by_cases e : y = z
      · subst e; exact n1 h3
      · have hzy : ltP xs z y := Classical.byContradiction fun hh => e (ltP_total n2 hh)
        exact n1 (ltP_trans h3 hzy)
theorem seq_bounds {xs : List InstD} (hok : instsOkB xs = true) (x : IdD) : 0 ≤ seqI xs x ∧ seqI xs x ≤ 60 := by
  unfold seqI
  rcases fInstAt_or xs x with ⟨j, hj, he, _⟩ | he
  · rw [he]
    have h1 := inst_ok hok j hj
    simp only [instOkB, Bool.and_eq_true] at h1
    have h6 := h1.2.2.2.2.2.1
    simpa [inB] using h6
  · rw [he]; simp [newInst]
set_option maxRecDepth 100000 in
set_option maxHeartbeats 4000000 in
theorem partFn_exact (xs : List InstD) (A : Option Addr) (n c gl : Nat) (x y : IdD) (w : World) (hn : n = xs.length) (hwt : n + (cat InstD.c xs).wt ≤ 1048576) (hok : instsOkB xs = true) (hb : Blk w gl 33 #[.slice A n c]) (h : Rep anyB w (.sl 40 16 n (cat InstD.c xs) .nil) [.slice A n c]) :
    Calls Try.prog 85 #[.agg #[.int .i64 x.rep, .int .i64 x.slot], .agg #[.int .i64 y.rep, .int .i64 y.slot], .pointer (some ⟨gl, 0, none⟩)] w fun e w' => e = .returned (.int .i64 (cmpP xs x y)) ∧ ∃ (q : Nat) (os' : Array Obj), w' = grow (w.drewN q) os' := by
  have HIA := Lib.hid (fun z cs W h h' => iInstAt_dr xs z A n c cs W hn hwt (Nat.zero_le _) h h')
  have HS1 := seq_bounds hok x
  have HS2 := seq_bounds hok y
  have HCP := Lib.hid (fun W => compareIds_exact x y W)
  have hR : cmpP xs x y = if seqI xs x = seqI xs y then idCmp x y else seqI xs x - seqI xs y := rfl
  have hq1 : (fInstAt xs x).seq = seqI xs x := rfl
  have hq2 : (fInstAt xs y).seq = seqI xs y := rfl
  generalize cmpP xs x y = R at *
  have HX := Lib.hid (id_shut2 x)
  have HY := Lib.hid (id_shut2 y)
  have HR := Lib.hid h; clear h hn
  have HB := Lib.hid hb; clear hb
  have HQ1 := Lib.hid hq1; clear hq1
  have HQ2 := Lib.hid hq2; clear hq2
  have HRR := Lib.hid hR; clear hR
  generalize seqI xs x = sx at *
  generalize seqI xs y = sy at *
  have SX := Lib.hid (show Blk ((w.alloc (.cells #[.int .i64 x.rep, .int .i64 x.slot] 36)).alloc (.cells #[.int .i64 y.rep, .int .i64 y.slot] 36)) w.heap.size 36 [.int .i64 x.rep, .int .i64 x.slot].toArray from blk2_0 _ _ _ _)
  have SY := Lib.hid (show Blk ((w.alloc (.cells #[.int .i64 x.rep, .int .i64 x.slot] 36)).alloc (.cells #[.int .i64 y.rep, .int .i64 y.slot] 36)) (w.heap.size + 1) 36 [.int .i64 y.rep, .int .i64 y.slot].toArray from blk2_1 _ _ _ _)
  have SB := Lib.hid ((HB.out.alloc (.cells #[.int .i64 x.rep, .int .i64 x.slot] 36)).alloc (.cells #[.int .i64 y.rep, .int .i64 y.slot] 36))
  have BW := Lib.hid (show Go.RowKit.Below w.heap.size w ((w.alloc (.cells #[.int .i64 x.rep, .int .i64 x.slot] 36)).alloc (.cells #[.int .i64 y.rep, .int .i64 y.slot] 36)) from (by repeat' (first | with_reducible exact Below.refl _ _ | with_reducible exact BW.out | with_reducible refine Below.setCell ?_ ?_ _ | with_reducible refine Below.alloc ?_ ?_ _ | with_reducible refine Below.drew ?_ | (simp; done) | (simp; omega) | omega)))
  have DR := Lib.hid (show w.drawn ≤ ((w.alloc (.cells #[.int .i64 x.rep, .int .i64 x.slot] 36)).alloc (.cells #[.int .i64 y.rep, .int .i64 y.slot] 36)).drawn from Nat.le_refl _)
  clear HB
  go_enter Try.func85, Try.ntmps85
  go_wp2
  refine wp_region_x 10 [0, 1, 4, 5, 2, 3, 6, 7, 8, 9] (by kernel_rfl) (by kernel_rfl) ?_
  have X := Lib.hid SX.out.drew; clear SX
  have SX := Lib.hid X.out; clear X
  have X := Lib.hid SY.out.drew; clear SY
  have SY := Lib.hid X.out; clear X
  have X := Lib.hid SB.out.drew; clear SB
  have SB := Lib.hid X.out; clear X
  have X := Lib.hid BW.out.drew; clear BW
  have BW := Lib.hid X.out; clear X
  have X := Lib.hid (Nat.le_succ_of_le DR.out); clear DR
  have DR := Lib.hid X.out; clear X
  have hb0 := blk_cell0 (L := [.slice A n c]) SB.out 0 rfl
  iterate 1 (refine wpX_quiet rfl (by kernel_rfl) rfl ?_; go_wp2; refine ⟨rfl, ?_⟩)
  clear hb0
  refine wpX_quiet rfl (by kernel_rfl) rfl ?_; go_wp2_with (first | (refine wpList_load_row _ ⟨w.heap.size, 0, none⟩ rfl [.int .i64 _, .int .i64 _] agg_Id rfl (blk_cells SX.out) ?_) | fail); refine ⟨rfl, ?_⟩
  have hb0 := blk_cell0 (L := [.slice A n c]) SB.out 0 rfl
  iterate 1 (refine wpX_quiet rfl (by kernel_rfl) rfl ?_; go_wp2; refine ⟨rfl, ?_⟩)
  clear hb0
  refine wpX_quiet rfl (by kernel_rfl) rfl ?_; go_wp2_with (first | (refine wpList_load_row _ ⟨w.heap.size + 1, 0, none⟩ rfl [.int .i64 _, .int .i64 _] agg_Id rfl (blk_cells SY.out) ?_) | fail); refine ⟨rfl, ?_⟩
  refine wpX_actor rfl (by kernel_rfl) ?_; go_wp2_with fail
  refine (HIA.out x _ _ (HR.out.below BW.out) (HX.out _)).mono ?_
  rintro e v1 ⟨cs1, rfl, hm1, hb, hd⟩
  have HB := Lib.hid hb; clear hb
  have X := Lib.hid (SX.out.below HB.out); clear SX
  have SX := Lib.hid X.out; clear X
  have X := Lib.hid (SY.out.below HB.out); clear SY
  have SY := Lib.hid X.out; clear X
  have X := Lib.hid (BW.out.trans (HB.out.mono BW.out.size)); clear BW
  have BW := Lib.hid X.out; clear X
  have X := Lib.hid (Nat.le_trans DR.out hd); clear DR hd
  have DR := Lib.hid X.out; clear X
  obtain ⟨_, _, _, _, rfl, _⟩ := InstD.open hm1.rep
  rw [HQ1.out]
  clear hm1
  go_wp2; refine ⟨Ext.of_below HB.out, ?_⟩
  clear HB
  refine wpX_quiet rfl (by kernel_rfl) rfl ?_; refine wpList_fld _ _ (.int .i64 sx) rfl (fld_seq _ _ _ _ _ _ _ _ _ _ _ _ _ _ _ _ _) ?_; refine ⟨rfl, ?_⟩
  refine wpX_actor rfl (by kernel_rfl) ?_; go_wp2_with fail
  refine (HIA.out y _ _ (HR.out.below BW.out) (HY.out _)).mono ?_
  rintro e v2 ⟨cs2, rfl, hm2, hb, hd⟩
  have HB := Lib.hid hb; clear hb
  have X := Lib.hid (SX.out.below HB.out); clear SX
  have SX := Lib.hid X.out; clear X
  have X := Lib.hid (SY.out.below HB.out); clear SY
  have SY := Lib.hid X.out; clear X
  have X := Lib.hid (BW.out.trans (HB.out.mono BW.out.size)); clear BW
  have BW := Lib.hid X.out; clear X
  have X := Lib.hid (Nat.le_trans DR.out hd); clear DR hd
  have DR := Lib.hid X.out; clear X
  obtain ⟨_, _, _, _, rfl, _⟩ := InstD.open hm2.rep
  rw [HQ2.out]
  clear hm2
  go_wp2; refine ⟨Ext.of_below HB.out, ?_⟩
  clear HB
  refine wpX_quiet rfl (by kernel_rfl) rfl ?_; refine wpList_fld _ _ (.int .i64 sy) rfl (fld_seq _ _ _ _ _ _ _ _ _ _ _ _ _ _ _ _ _) ?_; refine ⟨rfl, ?_⟩
  iterate 2 (refine wpX_quiet rfl (by kernel_rfl) rfl ?_; go_wp2; refine ⟨rfl, ?_⟩)
  refine wpX_nil ?_; try simp only [List.drop_succ_cons, List.drop_zero]
  by_cases hs : sx = sy
  · have hR2 := HRR.out
    rw [if_pos hs] at hR2
    have HR2 := Lib.hid hR2; clear hR2 HRR
    subst hs
    go_wp2_with (first | ((with_reducible show wpList _ _ _ ({ dst := _, op := Op.load 36 _, type := _, pos := _, after := _, guard := _ } :: _) _ _); first | refine wpList_load_row _ ⟨w.heap.size, 0, none⟩ rfl [.int .i64 x.rep, .int .i64 x.slot] agg_Id rfl (blk_cells SX.out) ?_ | refine wpList_load_row _ ⟨w.heap.size + 1, 0, none⟩ rfl [.int .i64 y.rep, .int .i64 y.slot] agg_Id rfl (blk_cells SY.out) ?_) | fail)
    refine (HCP.out _).mono ?_
    rintro e v3 ⟨rfl, q, os', rfl⟩
    have H3 := Lib.hid (grow_of_below (BW.out.trans ((below_of_grow (w := v2) (q := q) (os' := os')).1.mono BW.out.size)) (Nat.le_trans DR.out (below_of_grow (w := v2) (q := q) (os' := os')).2))
    go_wp2
    go_ret
    exact ⟨ret_eq (by rw [HR2.out]; rfl), H3.out⟩
  · have hR2 := HRR.out
    rw [if_neg hs] at hR2
    have HR2 := Lib.hid hR2; clear hR2 HRR
    have hsb : (sx == sy) = false := by simpa using hs
    have hsn : (sx != sy) = true := by simp [hs]
    clear hs
    have H3 := Lib.hid (grow_of_below BW.out DR.out)
    go_wp2
    go_ret
    exact ⟨ret_eq (by rw [HR2.out]; rfl), H3.out⟩

end Go.Proofs.Ytoffelfcmfpooaa
namespace Go.Proofs.Ytoffelfcmfpooaa
open Go.RowKit Go.Shelf Go.Lib Go.Sort

theorem sort_part (base g n' c' : Nat) (l : List IdD) (xs : List InstD) (A : Option Addr) (n c gl : Nat) (w : World) (hn' : n' = l.length) (hn1 : n' ≤ 4194304) (hrow : w.ownsRow base 36 2 (.slice (some ⟨g, 0, none⟩) n' c') n' (idCells l))
    (hn : n = xs.length) (hwt : n + (cat InstD.c xs).wt ≤ 1048576) (hok : instsOkB xs = true) (hgl : Blk w gl 33 #[.slice A n c]) (hne : gl ≠ g) (hrep : Rep (fun b => b ≠ g) w (.sl 40 16 n (cat InstD.c xs) .nil) [.slice A n c]) :
    Calls Try.prog 84 #[.slice (some ⟨g, 0, none⟩) n' c', .func (.func 85) #[] #[.pointer (some ⟨gl, 0, none⟩)]] w fun e w' =>
      e = .returned (.tuple #[]) ∧ ∃ ys : List IdD, ys.Perm l ∧ ys.Pairwise (fun a b => ¬ ltP xs b a) ∧ w'.ownsRow base 36 2 (.slice (some ⟨g, 0, none⟩) n' c') n' (idCells ys) ∧ w.grownBy w' (some g) := by
  subst hn'
  have hg := (hrow.lt g rfl).2
  have hH := holds_own (c := c') (base := base) (d := l.toArray) (n := l.length) (g := g) (w := w) rfl (by simpa using hrow)
  have hlays : CmpLays Try.prog 85 #[.pointer (some ⟨gl, 0, none⟩)] encId 2 (cmpP xs) g 0 l.toArray.size w := fun m os dk hdk x y => by
    have hgr := (own_sorted (m := m) (os := os) (d := dk) (n := l.length) (c := c') (base := base) (by simpa using hdk.symm) hg hrow).2
    exact partFn_exact xs A n c gl x y _ hn hwt hok (hgl.keep (hgr.block gl hgl.lt (fun e => hne (by injection e)))) ((hrep.keep hgr.size (fun b h1 h2 => hgr.block b h2 (fun e => h1 (by injection e)))).any)
  have hc := AnyQ.slices_SortFunc Try.sortId 2 (fun w => agg_Id.isAgg w) (fun w => agg_Id.size w) encId (fun _ => rfl) (fun x v hv => by simp [encId] at hv; rcases hv with rfl | rfl <;> rfl) (cmpP xs) (swo_P xs) 85 #[.pointer (some ⟨gl, 0, none⟩)] g 0 c' l.toArray w (enters_of Try.func85 (by kernel_rfl) rfl) hlays hH hg (by simp; omega)
  simp only [List.size_toArray] at hc
  refine hc.mono ?_
  rintro e w' ⟨rfl, d', m, os, hp, hs, rfl⟩
  have hsz : d'.size = l.length := by have := hp.1; simpa using this
  have ho := own_sorted (m := m) (os := os) (d := d') hsz.symm hg hrow
  refine ⟨rfl, d'.toList, ?_, ?_, ho.1, ho.2⟩
  · have := hp.2.2
    rw [show d'.extract 0 l.length = d' from by rw [← hsz]; simp, show l.toArray.extract 0 l.length = l.toArray from by simp] at this
    simpa using this
  · refine List.pairwise_iff_getElem.2 fun i j hi hj hij => ?_
    have := hs i j (Nat.zero_le _) hij (by simpa [hsz] using hj)
    have e1 : d'[i]! = d'.toList[i] := by rw [getElem!_pos d' i (by simpa using hi)]; simp
    have e2 : d'[j]! = d'.toList[j] := by rw [getElem!_pos d' j (by simpa using hj)]; simp
    rw [e1, e2] at this
    exact fun hh => by rw [(ltOf_P xs _ _).2 hh] at this; cases this
set_option maxRecDepth 100000 in
set_option maxHeartbeats 8000000 in
theorem iPart_any (xs : List InstD) (id : IdD) (A : Option Addr) (n c : Nat) (cs : List Value) (w : World) (hn : n = xs.length) (hwt : n + (cat InstD.c xs).wt ≤ 1048576) (hok : instsOkB xs = true) (hrd : rdyB xs id = true) (h : Rep anyB w (.sl 40 16 n (cat InstD.c xs) .nil) [.slice A n c]) (h' : Rep anyB w id.c cs) :
    Calls Try.prog 57 #[.slice A n c, .agg cs.toArray] w fun e w' => ∃ g m c2, e = .returned (.slice (some ⟨g, 0, none⟩) m c2) ∧ m = (partF xs id).length ∧ w'.ownsRow w.heap.size 36 2 (.slice (some ⟨g, 0, none⟩) m c2) m (idCells (partF xs id)) ∧ RowKit.Below w.heap.size w w' := by
  obtain rfl := IdD.open h'
  have hre : ∀ y, fReach xs y = rchL xs y := fun y => by unfold fReach rchL; rw [if_pos hok]
  have HRE := Lib.hid (fun y cs W h h' => by have := iReach_any xs y A n c cs W hn hwt (Nat.zero_le _) h h'; rw [hre] at this; exact this : ∀ (y : IdD) (cs : List Value) (W : World), Rep anyB W (.sl 40 16 n (cat InstD.c xs) .nil) [.slice A n c] → Rep anyB W y.c cs → Calls Try.prog 82 #[.slice A n c, .agg cs.toArray] W fun e w' => ∃ A2 m c2, e = .returned (.slice A2 m c2) ∧ m = (rchL xs y).length ∧ Mine w' W.heap.size (.sl 36 2 m (cat IdD.c (rchL xs y)) .nil) [.slice A2 m c2] ∧ RowKit.Below W.heap.size W w')
  have HLN := Lib.hid (fun x => (reach_len hok x : (rchL xs x).length ≤ 18))
  have HPD := Lib.hid (fun out ys ho hp hs => @part_done xs hok id hrd out ys ho hp hs)
  have HSO := Lib.hid (fun base g n' c' l gl W h1 h2 h3 h4 h5 h6 => sort_part base g n' c' l xs A n c gl W h1 h2 h3 hn hwt hok h4 h5 h6)
  generalize partF xs id = R at *
  have HRL := Lib.hid h.lt
  have HR := Lib.hid h; clear h
  have HX := Lib.hid (id_shut2 id)
  clear hn hok hrd h' hre hwt
  have SB := Lib.hid (show Blk ((w.alloc (.cells #[.slice A n c] 33)).alloc (.cells #[.int .i64 id.rep, .int .i64 id.slot] 36)) w.heap.size 33 [.slice A n c].toArray from blk2_0 _ _ _ _)
  have ZB := Lib.hid (show Blk ((w.alloc (.cells #[.slice A n c] 33)).alloc (.cells #[.int .i64 id.rep, .int .i64 id.slot] 36)) (w.heap.size + 1) 36 [.int .i64 id.rep, .int .i64 id.slot].toArray from blk2_1 _ _ _ _)
  have hmf : ∀ (fn : Fn) (first cap : Array Value) (w : World), (Instr.makeFunc fn first cap).run Try.prog w = .ok (.func fn first cap) w := fun _ _ _ _ => rfl
  have O0 := Lib.hid (show (((w.alloc (.cells #[.slice A n c] 33)).alloc (.cells #[.int .i64 id.rep, .int .i64 id.slot] 36)).alloc (.cells #[.int .i64 id.rep, .int .i64 id.slot] 36)).ownsRow (w.heap.size + 2) 36 2 (.slice (some ⟨w.heap.size + 2, 0, none⟩) 1 1) 1 (idCells [id]) from ⟨rfl, .inr ⟨w.heap.size + 2, 1, _, rfl, Nat.le_refl _, by have h1 := heap_alloc_new ((w.alloc (.cells #[.slice A n c] 33)).alloc (.cells #[.int .i64 id.rep, .int .i64 id.slot] 36)) (.cells #[.int .i64 id.rep, .int .i64 id.slot] 36); simpa using h1, Nat.le_refl _, by simp [maxLen], rfl, rfl⟩⟩)
  go_enter Try.func57, Try.ntmps57
  have hb0 := blk_cell0 (L := [.slice A n c]) (SB.out.alloc (.cells #[.int .i64 id.rep, .int .i64 id.slot] 36)) 0 rfl
  go_wp2_with (first | ((with_reducible show wpList _ _ _ ({ dst := _, op := Op.load 36 _, type := _, pos := _, after := _, guard := _ } :: _) _ _); first | refine wpList_load_row _ ⟨w.heap.size + 1, 0, none⟩ rfl [.int .i64 id.rep, .int .i64 id.slot] agg_Id rfl (blk_cells ZB.out) ?_ | refine wpList_load_row _ ⟨w.heap.size + 1, 0, none⟩ rfl [.int .i64 id.rep, .int .i64 id.slot] agg_Id rfl (blk_cells (ZB.out.alloc _)) ?_) | fail)
  clear hb0
  refine (HRE.out id _ _ (HR.out.below (by repeat' (first | with_reducible exact Below.refl _ _ | with_reducible exact BW.out | with_reducible refine Below.setCell ?_ ?_ _ | with_reducible refine Below.alloc ?_ ?_ _ | with_reducible refine Below.drew ?_ | (simp; done) | (simp; omega) | omega))) (HX.out _)).mono ?_; rintro e w1 ⟨A1, m1, c1, rfl, hm1, hmine, hb⟩
  have hm18 : m1 ≤ 18 := by rw [hm1]; exact HLN.out id
  have HM1 := Lib.hid hm1; clear hm1
  have hown1 := mine_row_ids hmine
  have MO := Lib.hid (ownsRow_keep (base' := w.heap.size + 3) hown1 (w' := w1) (fun b hb2 => ⟨by have h1 := (hown1.lt b hb2).1; simp at h1; omega, rfl⟩))
  have SB1 := Lib.hid ((SB.out.alloc _).below hb)
  have ZB1 := Lib.hid ((ZB.out.alloc _).below hb)
  have O1 := Lib.hid (O0.out.keptBelowJ hb)
  have BW := Lib.hid (show RowKit.Below w.heap.size w w1 from RowKit.Below.trans (by repeat' (first | with_reducible exact Below.refl _ _ | with_reducible exact BW.out | with_reducible refine Below.setCell ?_ ?_ _ | with_reducible refine Below.alloc ?_ ?_ _ | with_reducible refine Below.drew ?_ | (simp; done) | (simp; omega) | omega)) (hb.mono (by first | (simp; done) | (simp; omega) | omega)))
  clear hb hown1 hmine SB ZB O0
  obtain ⟨L, hL⟩ : ∃ L, L = rchL xs id := ⟨_, rfl⟩
  rw [← hL] at HM1 MO HPD
  clear hL
  go_wp2
  go_loopw [5, 14] (fun oo ii wr => ∃ (j q g c' : Nat) (acc : List IdD), j ≤ m1 ∧ ii = .int .i64 (j : Int) ∧ oo = .slice (some ⟨g, 0, none⟩) q c' ∧ q = acc.length ∧ q ≤ j + 1 ∧ acc = id :: (L.take j).filter (fun d => !decide (d = id) && decide (id ∈ rchL xs d)) ∧ wr.ownsRow (w.heap.size + 2) 36 2 (.slice (some ⟨g, 0, none⟩) q c') q (idCells acc) ∧ Blk wr w.heap.size 33 [.slice A n c].toArray ∧ Blk wr (w.heap.size + 1) 36 [.int .i64 id.rep, .int .i64 id.slot].toArray ∧ wr.ownsRow (w.heap.size + 3) 36 2 (.slice A1 m1 c1) m1 (idCells L) ∧ (∀ b, (Value.slice A1 m1 c1).ownBlock = some b → b ≠ g) ∧ RowKit.Below w.heap.size w wr) (fun _ ii _ => m1 - (intOf ii).toNat)
  case atStart => exact ⟨0, 1, _, _, [id], Nat.zero_le _, rfl, rfl, rfl, Nat.le_refl _, by simp, O1.out, SB1.out, ZB1.out, MO.out, fun b hb e => by have := (MO.out.lt b hb).1; omega, BW.out⟩
  case round =>
    obtain ⟨j, q, g, c', acc, hj, rfl, rfl, hq, hqj, hacc, hown, hsb, hzb, hmo, hmn, hbel⟩ := hrel
    clear SB1 ZB1 O1 BW MO
    have HQ := Lib.hid hq; clear hq
    have HA := Lib.hid hacc; clear hacc
    have HO := Lib.hid hown; clear hown
    have SB := Lib.hid hsb; clear hsb
    have ZB := Lib.hid hzb; clear hzb
    have MO := Lib.hid hmo; clear hmo
    have MN := Lib.hid hmn; clear hmn
    have BW := Lib.hid hbel; clear hbel
    by_cases hlt : j < m1
    · have hjx : j < L.length := by have := HM1.out; omega
      obtain ⟨ad, hA1, hyi⟩ := reads_id (Reads.of_own MO.out) HM1.out j hjx
      subst hA1
      have htk : L.take (j + 1) = L.take j ++ [L[j]] := List.take_succ_eq_append_getElem hjx
      generalize L[j] = y at *
      have HTK := Lib.hid (show ∀ b : Bool, (!decide (y = id) && decide (id ∈ rchL xs y)) = b → id :: (L.take (j + 1)).filter (fun d => !decide (d = id) && decide (id ∈ rchL xs d)) = acc ++ (if b = true then [y] else []) from fun b hb => by
        rw [htk, List.filter_append, HA.out, List.cons_append]
        cases b with
        | true => simp [hb]
        | false => simp [hb])
      clear htk
      have HYI := Lib.hid hyi; clear hyi
      obtain ⟨gx, hgx⟩ : ∃ gx, gx = wr.heap.size := ⟨_, rfl⟩
      have HGX := Lib.hid hgx; clear hgx
      obtain ⟨yr, ys⟩ := y
      obtain ⟨ir, is⟩ := id
      simp only [] at HYI ZB HX
      go_wp2_with (first
        | ((with_reducible show wpList _ _ _ ({ dst := _, op := Op.load 36 _, type := _, pos := _, after := _, guard := _ } :: _) _ _); refine wpList_load_row _ (ad.add (j * 2)) rfl [.int .i64 yr, .int .i64 ys] agg_Id rfl HYI.out ?_)
        | ((with_reducible show wpList _ _ _ ({ dst := _, op := Op.store 36 _ _, type := _, pos := _, after := _, guard := _ } :: _) _ _); go_must (refine wpList_store_row _ wr.heap.size 36 0 [.int .i64 yr, .int .i64 ys] [] [.int .i64 0, .int .i64 0] [] _ rfl rfl agg_Id (blk_new wr _ _) rfl rfl rfl (by intro u hu; simp at hu; rcases hu with rfl | rfl <;> rfl) ?_; intro v1 h4 g4; rw [← HGX.out] at h4 g4 ⊢; have XB := Lib.hid (show Blk v1 gx 36 [.int .i64 yr, .int .i64 ys].toArray by simpa using h4); have D1 := Lib.hid (show RowKit.Below wr.heap.size wr v1 from RowKit.Below.grown ((RowKit.Below.refl _ _).alloc (Nat.le_refl _) _) g4 (by simp) (fun k hk => by injection hk with hk; have := HGX.out; omega)); clear h4 g4))
        | fail)
      have X := Lib.hid (HO.out.keptBelowJ D1.out); clear HO
      have HO := Lib.hid X.out; clear X
      have X := Lib.hid (SB.out.below D1.out); clear SB
      have SB := Lib.hid X.out; clear X
      have X := Lib.hid (ZB.out.below D1.out); clear ZB
      have ZB := Lib.hid X.out; clear X
      have X := Lib.hid (MO.out.keptBelowJ D1.out); clear MO
      have MO := Lib.hid X.out; clear X
      have X := Lib.hid (BW.out.trans (RowKit.Below.mono D1.out BW.out.size)); clear BW
      have BW := Lib.hid X.out; clear X
      clear D1 HYI
      by_cases e1 : yr = ir
      · obtain rfl : ir = yr := e1.symm
        by_cases e2 : ys = is
        · obtain rfl : is = ys := e2.symm
          have hT2 := HTK.out false (by simp)
          rw [if_neg (by simp), List.append_nil] at hT2
          have HT2 := Lib.hid hT2; clear hT2 HTK
          go_wp2
          refine wp_region_g 10 (.one 0 (.one 1 (.act 2 (.one 3 (.one 4 (.one 5 (.one 7 (.one 6 (.one 8 (.one 9 .leaf)))))))))) (by kernel_rfl) (by kernel_rfl) ?_
          have X := Lib.hid (SB.out.drew); clear SB
          have SB := Lib.hid X.out; clear X
          have X := Lib.hid (ZB.out.drew); clear ZB
          have ZB := Lib.hid X.out; clear X
          have X := Lib.hid (XB.out.drew); clear XB
          have XB := Lib.hid X.out; clear X
          have X := Lib.hid (BW.out.drew); clear BW
          have BW := Lib.hid X.out; clear X
          have X := Lib.hid (HO.out.keptBelowJ (RowKit.Below.refl _ _).drew); clear HO
          have HO := Lib.hid X.out; clear X
          have X := Lib.hid (MO.out.keptBelowJ (RowKit.Below.refl _ _).drew); clear MO
          have MO := Lib.hid X.out; clear X
          refine wpG_quiet rfl (by kernel_rfl) rfl ?_; refine wpList_load_row_g _ (by first | rfl | kernel_rfl) ⟨gx, 0, none⟩ rfl [.int .i64 ir, .int .i64 is] agg_Id rfl (blk_cells XB.out) ?_; go_wp2; refine ⟨rfl, ?_⟩
          refine wpG_quiet rfl (by kernel_rfl) rfl ?_; refine wpList_load_row_g _ (by first | rfl | kernel_rfl) ⟨w.heap.size + 1, 0, none⟩ rfl [.int .i64 ir, .int .i64 is] agg_Id rfl (blk_cells ZB.out) ?_; go_wp2; refine ⟨rfl, ?_⟩
          refine wpG_act rfl ?_; go_wp2
          refine ⟨Ext.refl _, ?_⟩
          iterate 1 (refine wpG_quiet rfl (by kernel_rfl) rfl ?_; go_wp2; refine ⟨rfl, ?_⟩)
          iterate 5 (refine wpG_skip rfl rfl (by kernel_rfl) ?_; simp only [List.setIfInBounds_toArray, List.set_cons_succ, List.set_cons_zero])
          iterate 1 (refine wpG_quiet rfl (by kernel_rfl) rfl ?_; go_wp2; refine ⟨rfl, ?_⟩)
          refine wpG_nil ?_; try simp only [List.drop_succ_cons, List.drop_zero]
          go_wp2
          exact ⟨⟨j + 1, q, g, c', acc, by omega, by go_num, rfl, HQ.out, by omega, HT2.out.symm, HO.out, SB.out, ZB.out, MO.out, MN.out, BW.out⟩, by simp only [intOf]; omega⟩
        · have e3 : (ys == is) = false := by simpa using e2
          have HNE := Lib.hid (show ¬ (⟨ir, ys⟩ : IdD) = ⟨ir, is⟩ from fun h => e2 (by injection h)); clear e2
          cases hb2 : hasB (rchL xs ⟨ir, ys⟩) ⟨ir, is⟩ with
          | false =>
            have HB2 := Lib.hid hb2
            rw [hasB_dec] at hb2
            have hT2 := HTK.out false (by rw [hb2]; simp [HNE.out])
            rw [if_neg (by simp), List.append_nil] at hT2
            have HT2 := Lib.hid hT2; clear hT2 hb2 HTK
            go_wp2
            refine wp_region_g 10 (.one 0 (.one 1 (.act 2 (.one 3 (.one 4 (.one 5 (.one 7 (.one 6 (.one 8 (.one 9 .leaf)))))))))) (by kernel_rfl) (by kernel_rfl) ?_
            have X := Lib.hid (SB.out.drew); clear SB
            have SB := Lib.hid X.out; clear X
            have X := Lib.hid (ZB.out.drew); clear ZB
            have ZB := Lib.hid X.out; clear X
            have X := Lib.hid (XB.out.drew); clear XB
            have XB := Lib.hid X.out; clear X
            have X := Lib.hid (BW.out.drew); clear BW
            have BW := Lib.hid X.out; clear X
            have X := Lib.hid (HO.out.keptBelowJ (RowKit.Below.refl _ _).drew); clear HO
            have HO := Lib.hid X.out; clear X
            have X := Lib.hid (MO.out.keptBelowJ (RowKit.Below.refl _ _).drew); clear MO
            have MO := Lib.hid X.out; clear X
            refine wpG_quiet rfl (by kernel_rfl) rfl ?_; refine wpList_load_row_g _ (by first | rfl | kernel_rfl) ⟨gx, 0, none⟩ rfl [.int .i64 ir, .int .i64 ys] agg_Id rfl (blk_cells XB.out) ?_; go_wp2; refine ⟨rfl, ?_⟩
            refine wpG_quiet rfl (by kernel_rfl) rfl ?_; refine wpList_load_row_g _ (by first | rfl | kernel_rfl) ⟨w.heap.size + 1, 0, none⟩ rfl [.int .i64 ir, .int .i64 is] agg_Id rfl (blk_cells ZB.out) ?_; go_wp2; refine ⟨rfl, ?_⟩
            refine wpG_act rfl ?_; go_wp2
            refine ⟨Ext.refl _, ?_⟩
            iterate 1 (refine wpG_quiet rfl (by kernel_rfl) rfl ?_; go_wp2; refine ⟨rfl, ?_⟩)
            have hb0 := blk_cell0 (L := [.slice A n c]) SB.out 0 rfl
            iterate 1 (refine wpG_quiet rfl (by kernel_rfl) rfl ?_; go_wp2; refine ⟨rfl, ?_⟩)
            clear hb0
            refine wpG_quiet rfl (by kernel_rfl) rfl ?_; refine wpList_load_row_g _ (by first | rfl | kernel_rfl) ⟨gx, 0, none⟩ rfl [.int .i64 ir, .int .i64 ys] agg_Id rfl (blk_cells XB.out) ?_; go_wp2; refine ⟨rfl, ?_⟩
            refine wpG_quiet rfl (by kernel_rfl) rfl ?_; refine wpList_load_row_g _ (by first | rfl | kernel_rfl) ⟨w.heap.size + 1, 0, none⟩ rfl [.int .i64 ir, .int .i64 is] agg_Id rfl (blk_cells ZB.out) ?_; go_wp2; refine ⟨rfl, ?_⟩
            refine wpG_actor rfl (by kernel_rfl) ?_; go_wp2_with fail
            refine (HRE.out ⟨ir, ys⟩ _ _ (HR.out.below BW.out) (id_shut2 _ _)).mono ?_; rintro e v3 ⟨A4, m4, c4, rfl, hm4, hmine4, hb⟩
            have hm418 : m4 ≤ 18 := by rw [hm4]; exact HLN.out _
            have M4 := Lib.hid hmine4.rep.any; clear hmine4
            have HM4 := Lib.hid hm4; clear hm4
            have HB := Lib.hid hb; clear hb
            have X := Lib.hid (HO.out.keptBelowJ HB.out); clear HO
            have HO := Lib.hid X.out; clear X
            have X := Lib.hid (SB.out.below HB.out); clear SB
            have SB := Lib.hid X.out; clear X
            have X := Lib.hid (ZB.out.below HB.out); clear ZB
            have ZB := Lib.hid X.out; clear X
            have X := Lib.hid (MO.out.keptBelowJ HB.out); clear MO
            have MO := Lib.hid X.out; clear X
            have X := Lib.hid (BW.out.trans (RowKit.Below.mono HB.out BW.out.size)); clear BW
            have BW := Lib.hid X.out; clear X
            have X := Lib.hid (XB.out.below HB.out); clear XB
            have XB := Lib.hid X.out; clear X
            go_wp2; refine ⟨Ext.of_below HB.out, ?_⟩
            clear HB
            refine wpG_actor rfl (by kernel_rfl) ?_; go_wp2_with fail
            refine (containsId_any (rchL xs ⟨ir, ys⟩) ⟨ir, is⟩ A4 m4 c4 _ _ HM4.out (by omega) M4.out (id_shut2 _ _)).mono ?_
            rintro e v4 ⟨rfl, hb⟩
            rw [HB2.out]
            have HB := Lib.hid hb; clear hb M4 HM4
            have X := Lib.hid (HO.out.keptBelowJ HB.out); clear HO
            have HO := Lib.hid X.out; clear X
            have X := Lib.hid (SB.out.below HB.out); clear SB
            have SB := Lib.hid X.out; clear X
            have X := Lib.hid (ZB.out.below HB.out); clear ZB
            have ZB := Lib.hid X.out; clear X
            have X := Lib.hid (MO.out.keptBelowJ HB.out); clear MO
            have MO := Lib.hid X.out; clear X
            have X := Lib.hid (BW.out.trans (RowKit.Below.mono HB.out BW.out.size)); clear BW
            have BW := Lib.hid X.out; clear X
            have X := Lib.hid (XB.out.below HB.out); clear XB
            have XB := Lib.hid X.out; clear X
            go_wp2; refine ⟨Ext.of_below HB.out, ?_⟩
            clear HB
            iterate 1 (refine wpG_quiet rfl (by kernel_rfl) rfl ?_; go_wp2; refine ⟨rfl, ?_⟩)
            refine wpG_nil ?_; try simp only [List.drop_succ_cons, List.drop_zero]
            go_wp2
            exact ⟨⟨j + 1, q, g, c', acc, by omega, by go_num, rfl, HQ.out, by omega, HT2.out.symm, HO.out, SB.out, ZB.out, MO.out, MN.out, BW.out⟩, by simp only [intOf]; omega⟩
          | true =>
            have HB2 := Lib.hid hb2
            rw [hasB_dec] at hb2
            have hT2 := HTK.out true (by rw [hb2]; simp [HNE.out])
            rw [if_pos rfl] at hT2
            have HT2 := Lib.hid hT2; clear hT2 hb2 HTK
            go_wp2
            refine wp_region_g 10 (.one 0 (.one 1 (.act 2 (.one 3 (.one 4 (.one 5 (.one 7 (.one 6 (.one 8 (.one 9 .leaf)))))))))) (by kernel_rfl) (by kernel_rfl) ?_
            have X := Lib.hid (SB.out.drew); clear SB
            have SB := Lib.hid X.out; clear X
            have X := Lib.hid (ZB.out.drew); clear ZB
            have ZB := Lib.hid X.out; clear X
            have X := Lib.hid (XB.out.drew); clear XB
            have XB := Lib.hid X.out; clear X
            have X := Lib.hid (BW.out.drew); clear BW
            have BW := Lib.hid X.out; clear X
            have X := Lib.hid (HO.out.keptBelowJ (RowKit.Below.refl _ _).drew); clear HO
            have HO := Lib.hid X.out; clear X
            have X := Lib.hid (MO.out.keptBelowJ (RowKit.Below.refl _ _).drew); clear MO
            have MO := Lib.hid X.out; clear X
            refine wpG_quiet rfl (by kernel_rfl) rfl ?_; refine wpList_load_row_g _ (by first | rfl | kernel_rfl) ⟨gx, 0, none⟩ rfl [.int .i64 ir, .int .i64 ys] agg_Id rfl (blk_cells XB.out) ?_; go_wp2; refine ⟨rfl, ?_⟩
            refine wpG_quiet rfl (by kernel_rfl) rfl ?_; refine wpList_load_row_g _ (by first | rfl | kernel_rfl) ⟨w.heap.size + 1, 0, none⟩ rfl [.int .i64 ir, .int .i64 is] agg_Id rfl (blk_cells ZB.out) ?_; go_wp2; refine ⟨rfl, ?_⟩
            refine wpG_act rfl ?_; go_wp2
            refine ⟨Ext.refl _, ?_⟩
            iterate 1 (refine wpG_quiet rfl (by kernel_rfl) rfl ?_; go_wp2; refine ⟨rfl, ?_⟩)
            have hb0 := blk_cell0 (L := [.slice A n c]) SB.out 0 rfl
            iterate 1 (refine wpG_quiet rfl (by kernel_rfl) rfl ?_; go_wp2; refine ⟨rfl, ?_⟩)
            clear hb0
            refine wpG_quiet rfl (by kernel_rfl) rfl ?_; refine wpList_load_row_g _ (by first | rfl | kernel_rfl) ⟨gx, 0, none⟩ rfl [.int .i64 ir, .int .i64 ys] agg_Id rfl (blk_cells XB.out) ?_; go_wp2; refine ⟨rfl, ?_⟩
            refine wpG_quiet rfl (by kernel_rfl) rfl ?_; refine wpList_load_row_g _ (by first | rfl | kernel_rfl) ⟨w.heap.size + 1, 0, none⟩ rfl [.int .i64 ir, .int .i64 is] agg_Id rfl (blk_cells ZB.out) ?_; go_wp2; refine ⟨rfl, ?_⟩
            refine wpG_actor rfl (by kernel_rfl) ?_; go_wp2_with fail
            refine (HRE.out ⟨ir, ys⟩ _ _ (HR.out.below BW.out) (id_shut2 _ _)).mono ?_; rintro e v3 ⟨A4, m4, c4, rfl, hm4, hmine4, hb⟩
            have hm418 : m4 ≤ 18 := by rw [hm4]; exact HLN.out _
            have M4 := Lib.hid hmine4.rep.any; clear hmine4
            have HM4 := Lib.hid hm4; clear hm4
            have HB := Lib.hid hb; clear hb
            have X := Lib.hid (HO.out.keptBelowJ HB.out); clear HO
            have HO := Lib.hid X.out; clear X
            have X := Lib.hid (SB.out.below HB.out); clear SB
            have SB := Lib.hid X.out; clear X
            have X := Lib.hid (ZB.out.below HB.out); clear ZB
            have ZB := Lib.hid X.out; clear X
            have X := Lib.hid (MO.out.keptBelowJ HB.out); clear MO
            have MO := Lib.hid X.out; clear X
            have X := Lib.hid (BW.out.trans (RowKit.Below.mono HB.out BW.out.size)); clear BW
            have BW := Lib.hid X.out; clear X
            have X := Lib.hid (XB.out.below HB.out); clear XB
            have XB := Lib.hid X.out; clear X
            go_wp2; refine ⟨Ext.of_below HB.out, ?_⟩
            clear HB
            refine wpG_actor rfl (by kernel_rfl) ?_; go_wp2_with fail
            refine (containsId_any (rchL xs ⟨ir, ys⟩) ⟨ir, is⟩ A4 m4 c4 _ _ HM4.out (by omega) M4.out (id_shut2 _ _)).mono ?_
            rintro e v4 ⟨rfl, hb⟩
            rw [HB2.out]
            have HB := Lib.hid hb; clear hb M4 HM4
            have X := Lib.hid (HO.out.keptBelowJ HB.out); clear HO
            have HO := Lib.hid X.out; clear X
            have X := Lib.hid (SB.out.below HB.out); clear SB
            have SB := Lib.hid X.out; clear X
            have X := Lib.hid (ZB.out.below HB.out); clear ZB
            have ZB := Lib.hid X.out; clear X
            have X := Lib.hid (MO.out.keptBelowJ HB.out); clear MO
            have MO := Lib.hid X.out; clear X
            have X := Lib.hid (BW.out.trans (RowKit.Below.mono HB.out BW.out.size)); clear BW
            have BW := Lib.hid X.out; clear X
            have X := Lib.hid (XB.out.below HB.out); clear XB
            have XB := Lib.hid X.out; clear X
            go_wp2; refine ⟨Ext.of_below HB.out, ?_⟩
            clear HB
            iterate 1 (refine wpG_quiet rfl (by kernel_rfl) rfl ?_; go_wp2; refine ⟨rfl, ?_⟩)
            refine wpG_nil ?_; try simp only [List.drop_succ_cons, List.drop_zero]
            go_wp2_with (first
              | ((with_reducible show wpList _ _ _ ({ dst := _, op := Op.load 36 _, type := _, pos := _, after := _, guard := _ } :: _) _ _); refine wpList_load_row _ ⟨gx, 0, none⟩ rfl [.int .i64 ir, .int .i64 ys] agg_Id rfl (blk_cells XB.out) ?_)
              | (at_builtin; go_must (refine wpList_app E_Id _ rfl (.tmp 28) (.tmp 30) rfl (w.heap.size + 2) _ q _ rfl (HO.out.alloc _) _ _ _ _ rfl (Reads.new (e := 36) rfl) (by intro u hu; simp at hu; rcases hu with rfl | rfl <;> rfl) (by omega) (by have h1 := (HO.out.lt g rfl).1; have h2 := (HO.out.lt g rfl).2; simp; omega) ?_; intro v' w5 hown5 hg5 hat5; have W5 := Lib.hid hown5; have G5 := Lib.hid (show World.grownBy (World.alloc v4 (.cells #[.int .i64 ir, .int .i64 ys] 36)) w5 (some g) from hg5); have T5 := Lib.hid (show v'.ownBlock = some g ∨ v'.ownBlock = some (World.heap v4).size.succ from hat5.imp id (fun h => h.trans (by simp))); clear hown5 hg5 hat5))
              | fail)
            obtain ⟨g7, hv7⟩ : ∃ g7, v'.ownBlock = some g7 := T5.out.elim (fun h => ⟨_, h⟩) (fun h => ⟨_, h⟩)
            obtain ⟨c7, rfl, _⟩ := own_some W5.out hv7
            have hg7 : g7 = g ∨ (World.heap v4).size < g7 := by rcases T5.out with h | h <;> (injection h with h; simp at h; omega)
            have hgw := HO.out.lt g rfl
            have hk8 : ∀ b, b < (World.heap v4).size → b ≠ g → w5.heap[b]? = v4.heap[b]? := fun b hb hne => (G5.out.block b (by simp; omega) (fun e => by injection e with e; exact hne e)).trans (((RowKit.Below.refl _ v4).alloc (Nat.le_refl _) _).block b hb)
            have Z1 := Lib.hid (show RowKit.Below w.heap.size w w5 from RowKit.Below.grown (BW.out.alloc BW.out.size _) G5.out (Nat.le_trans BW.out.size (by simp)) (fun k hk => by injection hk with hk; omega))
            have Z2 := Lib.hid (SB.out.keep (hk8 _ (by omega) (by omega)))
            have Z3 := Lib.hid (ZB.out.keep (hk8 _ (by omega) (by omega)))
            have Z4 := Lib.hid (ownsRow_keep (base' := w.heap.size + 3) MO.out (fun b hb => ⟨(MO.out.lt b hb).1, hk8 b (MO.out.lt b hb).2 (MN.out b hb)⟩))
            have Z5 := Lib.hid (show ∀ b, (Value.slice (some ad) m1 c1).ownBlock = some b → b ≠ g7 from fun b hb e => by have h1 := MN.out b hb; have h2 := (MO.out.lt b hb).2; omega)
            have Z6 := Lib.hid (show World.ownsRow w5 (w.heap.size + 2) 36 2 (.slice (some ⟨g7, 0, none⟩) (q + 1) c7) (q + 1) (idCells (acc ++ [⟨ir, ys⟩])) from by rw [idCells_app]; exact W5.out)
            have Z7 := Lib.hid (show q + 1 = (acc ++ [(⟨ir, ys⟩ : IdD)]).length from by rw [List.length_append, ← HQ.out]; rfl)
            clear hk8 hg7 hv7 hgw W5 G5 T5
            go_wp2
            exact ⟨⟨j + 1, q + 1, g7, c7, _, by omega, by go_num, rfl, Z7.out, by omega, HT2.out.symm, Z6.out, Z2.out, Z3.out, Z4.out, Z5.out, Z1.out⟩, by simp only [intOf]; omega⟩
      · have e3 : (yr == ir) = false := by simpa using e1
        have HNE := Lib.hid (show ¬ (⟨yr, ys⟩ : IdD) = ⟨ir, is⟩ from fun h => e1 (by injection h)); clear e1
        cases hb2 : hasB (rchL xs ⟨yr, ys⟩) ⟨ir, is⟩ with
        | false =>
          have HB2 := Lib.hid hb2
          rw [hasB_dec] at hb2
          have hT2 := HTK.out false (by rw [hb2]; simp [HNE.out])
          rw [if_neg (by simp), List.append_nil] at hT2
          have HT2 := Lib.hid hT2; clear hT2 hb2 HTK
          go_wp2
          refine wp_region_g 10 (.one 0 (.one 1 (.act 2 (.one 3 (.one 4 (.one 5 (.one 7 (.one 6 (.one 8 (.one 9 .leaf)))))))))) (by kernel_rfl) (by kernel_rfl) ?_
          have X := Lib.hid (SB.out.drew); clear SB
          have SB := Lib.hid X.out; clear X
          have X := Lib.hid (ZB.out.drew); clear ZB
          have ZB := Lib.hid X.out; clear X
          have X := Lib.hid (XB.out.drew); clear XB
          have XB := Lib.hid X.out; clear X
          have X := Lib.hid (BW.out.drew); clear BW
          have BW := Lib.hid X.out; clear X
          have X := Lib.hid (HO.out.keptBelowJ (RowKit.Below.refl _ _).drew); clear HO
          have HO := Lib.hid X.out; clear X
          have X := Lib.hid (MO.out.keptBelowJ (RowKit.Below.refl _ _).drew); clear MO
          have MO := Lib.hid X.out; clear X
          refine wpG_quiet rfl (by kernel_rfl) rfl ?_; refine wpList_load_row_g _ (by first | rfl | kernel_rfl) ⟨gx, 0, none⟩ rfl [.int .i64 yr, .int .i64 ys] agg_Id rfl (blk_cells XB.out) ?_; go_wp2; refine ⟨rfl, ?_⟩
          refine wpG_quiet rfl (by kernel_rfl) rfl ?_; refine wpList_load_row_g _ (by first | rfl | kernel_rfl) ⟨w.heap.size + 1, 0, none⟩ rfl [.int .i64 ir, .int .i64 is] agg_Id rfl (blk_cells ZB.out) ?_; go_wp2; refine ⟨rfl, ?_⟩
          refine wpG_act rfl ?_; go_wp2
          refine ⟨Ext.refl _, ?_⟩
          iterate 1 (refine wpG_quiet rfl (by kernel_rfl) rfl ?_; go_wp2; refine ⟨rfl, ?_⟩)
          have hb0 := blk_cell0 (L := [.slice A n c]) SB.out 0 rfl
          iterate 1 (refine wpG_quiet rfl (by kernel_rfl) rfl ?_; go_wp2; refine ⟨rfl, ?_⟩)
          clear hb0
          refine wpG_quiet rfl (by kernel_rfl) rfl ?_; refine wpList_load_row_g _ (by first | rfl | kernel_rfl) ⟨gx, 0, none⟩ rfl [.int .i64 yr, .int .i64 ys] agg_Id rfl (blk_cells XB.out) ?_; go_wp2; refine ⟨rfl, ?_⟩
          refine wpG_quiet rfl (by kernel_rfl) rfl ?_; refine wpList_load_row_g _ (by first | rfl | kernel_rfl) ⟨w.heap.size + 1, 0, none⟩ rfl [.int .i64 ir, .int .i64 is] agg_Id rfl (blk_cells ZB.out) ?_; go_wp2; refine ⟨rfl, ?_⟩
          refine wpG_actor rfl (by kernel_rfl) ?_; go_wp2_with fail
          refine (HRE.out ⟨yr, ys⟩ _ _ (HR.out.below BW.out) (id_shut2 _ _)).mono ?_; rintro e v3 ⟨A4, m4, c4, rfl, hm4, hmine4, hb⟩
          have hm418 : m4 ≤ 18 := by rw [hm4]; exact HLN.out _
          have M4 := Lib.hid hmine4.rep.any; clear hmine4
          have HM4 := Lib.hid hm4; clear hm4
          have HB := Lib.hid hb; clear hb
          have X := Lib.hid (HO.out.keptBelowJ HB.out); clear HO
          have HO := Lib.hid X.out; clear X
          have X := Lib.hid (SB.out.below HB.out); clear SB
          have SB := Lib.hid X.out; clear X
          have X := Lib.hid (ZB.out.below HB.out); clear ZB
          have ZB := Lib.hid X.out; clear X
          have X := Lib.hid (MO.out.keptBelowJ HB.out); clear MO
          have MO := Lib.hid X.out; clear X
          have X := Lib.hid (BW.out.trans (RowKit.Below.mono HB.out BW.out.size)); clear BW
          have BW := Lib.hid X.out; clear X
          have X := Lib.hid (XB.out.below HB.out); clear XB
          have XB := Lib.hid X.out; clear X
          go_wp2; refine ⟨Ext.of_below HB.out, ?_⟩
          clear HB
          refine wpG_actor rfl (by kernel_rfl) ?_; go_wp2_with fail
          refine (containsId_any (rchL xs ⟨yr, ys⟩) ⟨ir, is⟩ A4 m4 c4 _ _ HM4.out (by omega) M4.out (id_shut2 _ _)).mono ?_
          rintro e v4 ⟨rfl, hb⟩
          rw [HB2.out]
          have HB := Lib.hid hb; clear hb M4 HM4
          have X := Lib.hid (HO.out.keptBelowJ HB.out); clear HO
          have HO := Lib.hid X.out; clear X
          have X := Lib.hid (SB.out.below HB.out); clear SB
          have SB := Lib.hid X.out; clear X
          have X := Lib.hid (ZB.out.below HB.out); clear ZB
          have ZB := Lib.hid X.out; clear X
          have X := Lib.hid (MO.out.keptBelowJ HB.out); clear MO
          have MO := Lib.hid X.out; clear X
          have X := Lib.hid (BW.out.trans (RowKit.Below.mono HB.out BW.out.size)); clear BW
          have BW := Lib.hid X.out; clear X
          have X := Lib.hid (XB.out.below HB.out); clear XB
          have XB := Lib.hid X.out; clear X
          go_wp2; refine ⟨Ext.of_below HB.out, ?_⟩
          clear HB
          iterate 1 (refine wpG_quiet rfl (by kernel_rfl) rfl ?_; go_wp2; refine ⟨rfl, ?_⟩)
          refine wpG_nil ?_; try simp only [List.drop_succ_cons, List.drop_zero]
          go_wp2
          exact ⟨⟨j + 1, q, g, c', acc, by omega, by go_num, rfl, HQ.out, by omega, HT2.out.symm, HO.out, SB.out, ZB.out, MO.out, MN.out, BW.out⟩, by simp only [intOf]; omega⟩
        | true =>
          have HB2 := Lib.hid hb2
          rw [hasB_dec] at hb2
          have hT2 := HTK.out true (by rw [hb2]; simp [HNE.out])
          rw [if_pos rfl] at hT2
          have HT2 := Lib.hid hT2; clear hT2 hb2 HTK
          go_wp2
          refine wp_region_g 10 (.one 0 (.one 1 (.act 2 (.one 3 (.one 4 (.one 5 (.one 7 (.one 6 (.one 8 (.one 9 .leaf)))))))))) (by kernel_rfl) (by kernel_rfl) ?_
          have X := Lib.hid (SB.out.drew); clear SB
          have SB := Lib.hid X.out; clear X
          have X := Lib.hid (ZB.out.drew); clear ZB
          have ZB := Lib.hid X.out; clear X
          have X := Lib.hid (XB.out.drew); clear XB
          have XB := Lib.hid X.out; clear X
          have X := Lib.hid (BW.out.drew); clear BW
          have BW := Lib.hid X.out; clear X
          have X := Lib.hid (HO.out.keptBelowJ (RowKit.Below.refl _ _).drew); clear HO
          have HO := Lib.hid X.out; clear X
          have X := Lib.hid (MO.out.keptBelowJ (RowKit.Below.refl _ _).drew); clear MO
          have MO := Lib.hid X.out; clear X
          refine wpG_quiet rfl (by kernel_rfl) rfl ?_; refine wpList_load_row_g _ (by first | rfl | kernel_rfl) ⟨gx, 0, none⟩ rfl [.int .i64 yr, .int .i64 ys] agg_Id rfl (blk_cells XB.out) ?_; go_wp2; refine ⟨rfl, ?_⟩
          refine wpG_quiet rfl (by kernel_rfl) rfl ?_; refine wpList_load_row_g _ (by first | rfl | kernel_rfl) ⟨w.heap.size + 1, 0, none⟩ rfl [.int .i64 ir, .int .i64 is] agg_Id rfl (blk_cells ZB.out) ?_; go_wp2; refine ⟨rfl, ?_⟩
          refine wpG_act rfl ?_; go_wp2
          refine ⟨Ext.refl _, ?_⟩
          iterate 1 (refine wpG_quiet rfl (by kernel_rfl) rfl ?_; go_wp2; refine ⟨rfl, ?_⟩)
          have hb0 := blk_cell0 (L := [.slice A n c]) SB.out 0 rfl
          iterate 1 (refine wpG_quiet rfl (by kernel_rfl) rfl ?_; go_wp2; refine ⟨rfl, ?_⟩)
          clear hb0
          refine wpG_quiet rfl (by kernel_rfl) rfl ?_; refine wpList_load_row_g _ (by first | rfl | kernel_rfl) ⟨gx, 0, none⟩ rfl [.int .i64 yr, .int .i64 ys] agg_Id rfl (blk_cells XB.out) ?_; go_wp2; refine ⟨rfl, ?_⟩
          refine wpG_quiet rfl (by kernel_rfl) rfl ?_; refine wpList_load_row_g _ (by first | rfl | kernel_rfl) ⟨w.heap.size + 1, 0, none⟩ rfl [.int .i64 ir, .int .i64 is] agg_Id rfl (blk_cells ZB.out) ?_; go_wp2; refine ⟨rfl, ?_⟩
          refine wpG_actor rfl (by kernel_rfl) ?_; go_wp2_with fail
          refine (HRE.out ⟨yr, ys⟩ _ _ (HR.out.below BW.out) (id_shut2 _ _)).mono ?_; rintro e v3 ⟨A4, m4, c4, rfl, hm4, hmine4, hb⟩
          have hm418 : m4 ≤ 18 := by rw [hm4]; exact HLN.out _
          have M4 := Lib.hid hmine4.rep.any; clear hmine4
          have HM4 := Lib.hid hm4; clear hm4
          have HB := Lib.hid hb; clear hb
          have X := Lib.hid (HO.out.keptBelowJ HB.out); clear HO
          have HO := Lib.hid X.out; clear X
          have X := Lib.hid (SB.out.below HB.out); clear SB
          have SB := Lib.hid X.out; clear X
          have X := Lib.hid (ZB.out.below HB.out); clear ZB
          have ZB := Lib.hid X.out; clear X
          have X := Lib.hid (MO.out.keptBelowJ HB.out); clear MO
          have MO := Lib.hid X.out; clear X
          have X := Lib.hid (BW.out.trans (RowKit.Below.mono HB.out BW.out.size)); clear BW
          have BW := Lib.hid X.out; clear X
          have X := Lib.hid (XB.out.below HB.out); clear XB
          have XB := Lib.hid X.out; clear X
          go_wp2; refine ⟨Ext.of_below HB.out, ?_⟩
          clear HB
          refine wpG_actor rfl (by kernel_rfl) ?_; go_wp2_with fail
          refine (containsId_any (rchL xs ⟨yr, ys⟩) ⟨ir, is⟩ A4 m4 c4 _ _ HM4.out (by omega) M4.out (id_shut2 _ _)).mono ?_
          rintro e v4 ⟨rfl, hb⟩
          rw [HB2.out]
          have HB := Lib.hid hb; clear hb M4 HM4
          have X := Lib.hid (HO.out.keptBelowJ HB.out); clear HO
          have HO := Lib.hid X.out; clear X
          have X := Lib.hid (SB.out.below HB.out); clear SB
          have SB := Lib.hid X.out; clear X
          have X := Lib.hid (ZB.out.below HB.out); clear ZB
          have ZB := Lib.hid X.out; clear X
          have X := Lib.hid (MO.out.keptBelowJ HB.out); clear MO
          have MO := Lib.hid X.out; clear X
          have X := Lib.hid (BW.out.trans (RowKit.Below.mono HB.out BW.out.size)); clear BW
          have BW := Lib.hid X.out; clear X
          have X := Lib.hid (XB.out.below HB.out); clear XB
          have XB := Lib.hid X.out; clear X
          go_wp2; refine ⟨Ext.of_below HB.out, ?_⟩
          clear HB
          iterate 1 (refine wpG_quiet rfl (by kernel_rfl) rfl ?_; go_wp2; refine ⟨rfl, ?_⟩)
          refine wpG_nil ?_; try simp only [List.drop_succ_cons, List.drop_zero]
          go_wp2_with (first
            | ((with_reducible show wpList _ _ _ ({ dst := _, op := Op.load 36 _, type := _, pos := _, after := _, guard := _ } :: _) _ _); refine wpList_load_row _ ⟨gx, 0, none⟩ rfl [.int .i64 yr, .int .i64 ys] agg_Id rfl (blk_cells XB.out) ?_)
            | (at_builtin; go_must (refine wpList_app E_Id _ rfl (.tmp 28) (.tmp 30) rfl (w.heap.size + 2) _ q _ rfl (HO.out.alloc _) _ _ _ _ rfl (Reads.new (e := 36) rfl) (by intro u hu; simp at hu; rcases hu with rfl | rfl <;> rfl) (by omega) (by have h1 := (HO.out.lt g rfl).1; have h2 := (HO.out.lt g rfl).2; simp; omega) ?_; intro v' w5 hown5 hg5 hat5; have W5 := Lib.hid hown5; have G5 := Lib.hid (show World.grownBy (World.alloc v4 (.cells #[.int .i64 yr, .int .i64 ys] 36)) w5 (some g) from hg5); have T5 := Lib.hid (show v'.ownBlock = some g ∨ v'.ownBlock = some (World.heap v4).size.succ from hat5.imp id (fun h => h.trans (by simp))); clear hown5 hg5 hat5))
            | fail)
          obtain ⟨g7, hv7⟩ : ∃ g7, v'.ownBlock = some g7 := T5.out.elim (fun h => ⟨_, h⟩) (fun h => ⟨_, h⟩)
          obtain ⟨c7, rfl, _⟩ := own_some W5.out hv7
          have hg7 : g7 = g ∨ (World.heap v4).size < g7 := by rcases T5.out with h | h <;> (injection h with h; simp at h; omega)
          have hgw := HO.out.lt g rfl
          have hk8 : ∀ b, b < (World.heap v4).size → b ≠ g → w5.heap[b]? = v4.heap[b]? := fun b hb hne => (G5.out.block b (by simp; omega) (fun e => by injection e with e; exact hne e)).trans (((RowKit.Below.refl _ v4).alloc (Nat.le_refl _) _).block b hb)
          have Z1 := Lib.hid (show RowKit.Below w.heap.size w w5 from RowKit.Below.grown (BW.out.alloc BW.out.size _) G5.out (Nat.le_trans BW.out.size (by simp)) (fun k hk => by injection hk with hk; omega))
          have Z2 := Lib.hid (SB.out.keep (hk8 _ (by omega) (by omega)))
          have Z3 := Lib.hid (ZB.out.keep (hk8 _ (by omega) (by omega)))
          have Z4 := Lib.hid (ownsRow_keep (base' := w.heap.size + 3) MO.out (fun b hb => ⟨(MO.out.lt b hb).1, hk8 b (MO.out.lt b hb).2 (MN.out b hb)⟩))
          have Z5 := Lib.hid (show ∀ b, (Value.slice (some ad) m1 c1).ownBlock = some b → b ≠ g7 from fun b hb e => by have h1 := MN.out b hb; have h2 := (MO.out.lt b hb).2; omega)
          have Z6 := Lib.hid (show World.ownsRow w5 (w.heap.size + 2) 36 2 (.slice (some ⟨g7, 0, none⟩) (q + 1) c7) (q + 1) (idCells (acc ++ [⟨yr, ys⟩])) from by rw [idCells_app]; exact W5.out)
          have Z7 := Lib.hid (show q + 1 = (acc ++ [(⟨yr, ys⟩ : IdD)]).length from by rw [List.length_append, ← HQ.out]; rfl)
          clear hk8 hg7 hv7 hgw W5 G5 T5
          go_wp2
          exact ⟨⟨j + 1, q + 1, g7, c7, _, by omega, by go_num, rfl, Z7.out, by omega, HT2.out.symm, Z6.out, Z2.out, Z3.out, Z4.out, Z5.out, Z1.out⟩, by simp only [intOf]; omega⟩
    · have hjn : j = m1 := by omega
      subst hjn
      have hall : L.take j = L := List.take_of_length_le (by have := HM1.out; omega)
      have hA2 := HA.out
      rw [hall] at hA2
      have HA2 := Lib.hid hA2; clear hA2 hall HA
      have hgw := HO.out.lt g rfl
      have HNG := Lib.hid hgw; clear hgw
      go_wp2_with fail
      refine (HSO.out (w.heap.size + 2) g q c' acc w.heap.size _ HQ.out (by omega) HO.out SB.out (by have := HNG.out; omega) ((HRL.out.keep BW.out.size (fun b h1 h2 => BW.out.block b h2)).mono (fun b h1 => by have := HNG.out; omega))).mono ?_
      rintro e v2 ⟨rfl, ys, hp, hs, ho, hgr⟩
      have hy := HPD.out acc ys HA2.out hp hs
      subst hy
      have Z1 := Lib.hid (ownsRow_keep (base' := w.heap.size) ho (w' := v2) (fun b hb => ⟨by have := (ho.lt b hb).1; omega, rfl⟩))
      have Z2 := Lib.hid (RowKit.Below.grown BW.out hgr BW.out.size (fun k hk => by injection hk with hk; have := HNG.out; omega))
      have Z3 := Lib.hid (show q = ys.length from by rw [hp.length_eq]; exact HQ.out)
      clear ho hgr hp hs
      go_wp2
      go_ret
      exact ⟨_, _, _, rfl, Z3.out, Z1.out, Z2.out⟩

end Go.Proofs.Ytoffelfcmfpooaa
namespace Go.Proofs.Ytoffelfcmfpooaa
open Go.RowKit

theorem mayI_yes {xs : List InstD} {p t : List IdD} (h : ∀ i (hi : i < p.length), ∀ j (hj : j < (fInstAt xs p[i]).deps.length), (fInstAt xs p[i]).deps[j] ∈ p ∨ (fInstAt xs p[i]).deps[j] ∈ t) : mayI xs p t = true := by
  unfold mayI
  rw [List.all_eq_true]
  intro y hy
  obtain ⟨i, hi, rfl⟩ := List.getElem_of_mem hy
  rw [List.all_eq_true]
  intro d hd
  obtain ⟨j, hj, rfl⟩ := List.getElem_of_mem hd
  simpa using h i hi j hj
theorem mayI_no {xs : List InstD} {p t : List IdD} {i : Nat} (hi : i < p.length) {j : Nat} (hj : j < (fInstAt xs p[i]).deps.length) (h1 : (fInstAt xs p[i]).deps[j] ∉ p) (h2 : (fInstAt xs p[i]).deps[j] ∉ t) : mayI xs p t = false := by
  cases hh : mayI xs p t with
  | false => rfl
  | true =>
    unfold mayI at hh
    have := List.all_eq_true.1 (List.all_eq_true.1 hh p[i] (List.getElem_mem hi)) _ (List.getElem_mem hj)
    simp [h1, h2] at this
theorem fdeps_len {xs : List InstD} (hok : instsOkB xs = true) (y : IdD) : (fInstAt xs y).deps.length ≤ 18 := by
  rcases fInstAt_or xs y with ⟨j, hj, he, _⟩ | he
  · rw [he]
    have h := inst_deps (inst_ok hok j hj)
    exact ok_len (asc_nodup (ids_asc h)) (ids_ok h)
  · rw [he]; simp [newInst]
theorem fld_deps (a0 a1 a2 a3 a4 a5 a6 a7 a8 a9 a10 a11 a12 a13 a14 a15 : Value) (w : World) : (Instr.field 40 (.agg #[a0, a1, a2, a3, a4, a5, a6, a7, a8, a9, a10, a11, a12, a13, a14, a15]) 6).run Try.prog w = .ok a14 w := by
  kernel_rfl
set_option maxRecDepth 100000 in
set_option maxHeartbeats 4000000 in
theorem iFree_any (xs : List InstD) (p t : List IdD) (A : Option Addr) (n k : Nat) (A1 : Option Addr) (m1 c1 : Nat) (A2 : Option Addr) (m2 c2 : Nat) (w : World) (hn : n = xs.length) (hwt : n + (cat InstD.c xs).wt ≤ 1048576) (hok : instsOkB xs = true)
    (h1 : m1 = p.length) (hw1 : m1 ≤ 1048576) (h2 : m2 = t.length) (hw2 : m2 ≤ 1048576)
    (h : Rep anyB w (.sl 40 16 n (cat InstD.c xs) .nil) [.slice A n k]) (hp : Rep anyB w (.sl 36 2 m1 (cat IdD.c p) .nil) [.slice A1 m1 c1]) (ht : Rep anyB w (.sl 36 2 m2 (cat IdD.c t) .nil) [.slice A2 m2 c2]) :
    Calls Try.prog 60 #[.slice A n k, .slice A1 m1 c1, .slice A2 m2 c2] w fun e w' => e = .returned (.bool (mayI xs p t)) ∧ Below w.heap.size w w' := by
  obtain ⟨R, hR⟩ : ∃ R, R = mayI xs p t := ⟨_, rfl⟩
  rw [← hR]
  have HY := Lib.hid (fun hh => hR.trans (@mayI_yes xs p t hh))
  have HNO := Lib.hid (fun i hi j hj hh1 hh2 => hR.trans (@mayI_no xs p t i hi j hj hh1 hh2)); clear hR
  have HD := Lib.hid (fun y cs W hh hh' => iInstAt_any xs y A n k cs W hn hwt (Nat.zero_le _) hh hh')
  have HDL := Lib.hid (fun y => fdeps_len hok y)
  have HHP := Lib.hid (fun y cs W hh hh' => containsId_any p y A1 m1 c1 cs W h1 hw1 hh hh')
  have HHT := Lib.hid (fun y cs W hh hh' => containsId_any t y A2 m2 c2 cs W h2 hw2 hh hh')
  have HR := Lib.hid h; clear h
  have HP := Lib.hid hp; clear hp
  have HT := Lib.hid ht; clear ht
  have H1 := Lib.hid h1; clear h1
  clear hn hok h2 hwt
  go_enter Try.func60, Try.ntmps60
  go_wp2
  go_loopw [13] (fun ii wr => ∃ i : Nat, i ≤ m1 ∧ ii = .int .i64 (i : Int) ∧ (∀ q (hq : q < p.length), q < i → ∀ j (hj : j < (fInstAt xs p[q]).deps.length), (fInstAt xs p[q]).deps[j] ∈ p ∨ (fInstAt xs p[q]).deps[j] ∈ t) ∧ Below w.heap.size w wr) (fun ii _ => m1 - (intOf ii).toNat)
  case atStart => exact ⟨0, Nat.zero_le _, rfl, fun q _ hq => absurd hq (Nat.not_lt_zero _), Below.refl _ _⟩
  case round =>
    obtain ⟨i, hi, rfl, hall, hbel⟩ := hrel
    have HA := Lib.hid hall; clear hall
    have BW := Lib.hid hbel; clear hbel
    by_cases hlt : i < m1
    · have hip : i < p.length := by have := H1.out; omega
      obtain ⟨ad, ci, rfl, _, _, hrc, hl, hc⟩ := (HP.out.below BW.out).elem IdD.width i hip H1.out
      obtain rfl := IdD.open hrc
      have HRC := Lib.hid hrc; clear hrc
      have HC := Lib.hid hc; clear hc hl
      have HNI := Lib.hid (fun j hj => HNO.out i hip j hj)
      have HST := Lib.hid (show (∀ j (hj : j < (fInstAt xs p[i]).deps.length), (fInstAt xs p[i]).deps[j] ∈ p ∨ (fInstAt xs p[i]).deps[j] ∈ t) → ∀ q (hq : q < p.length), q < i + 1 → ∀ j (hj : j < (fInstAt xs p[q]).deps.length), (fInstAt xs p[q]).deps[j] ∈ p ∨ (fInstAt xs p[q]).deps[j] ∈ t from fun hh q hq hqi => by
        by_cases e : q = i
        · subst e; exact hh
        · exact HA.out q hq (by omega))
      have hdl := HDL.out p[i]
      clear HA
      generalize p[i] = y at *
      obtain ⟨yr, ys⟩ := y
      simp only [] at HC HRC
      obtain ⟨gx, hgx⟩ : ∃ gx, gx = wr.heap.size := ⟨_, rfl⟩
      have HGX := Lib.hid hgx; clear hgx
      go_wp2_with (first
        | ((with_reducible show wpList _ _ _ ({ dst := _, op := Op.load 36 _, type := _, pos := _, after := _, guard := _ } :: _) _ _); first | refine wpList_load_row _ ⟨gx, 0, none⟩ rfl [.int .i64 yr, .int .i64 ys] agg_Id rfl (blk_cells XB.out) ?_ | refine wpList_load_row _ (ad.add (i * 2)) rfl [.int .i64 yr, .int .i64 ys] agg_Id rfl HC.out ?_)
        | ((with_reducible show wpList _ _ _ ({ dst := _, op := Op.store 36 _ _, type := _, pos := _, after := _, guard := _ } :: _) _ _); go_must (refine wpList_store_row _ wr.heap.size 36 0 [.int .i64 yr, .int .i64 ys] [] [.int .i64 0, .int .i64 0] [] _ rfl rfl agg_Id (blk_new wr _ _) rfl rfl rfl (by intro u hu; simp at hu; rcases hu with rfl | rfl <;> rfl) ?_; intro v1 h4 g4; rw [← HGX.out] at h4 g4 ⊢; have XB := Lib.hid (show Blk v1 gx 36 [.int .i64 yr, .int .i64 ys].toArray by simpa using h4); have D1 := Lib.hid (show Below wr.heap.size wr v1 from Below.grown ((Below.refl _ _).alloc (Nat.le_refl _) _) g4 (by simp) (fun k hk => by injection hk with hk; have := HGX.out; omega)); clear h4 g4))
        | fail)
      have X := Lib.hid (BW.out.trans (D1.out.mono BW.out.size)); clear BW D1
      have BW := Lib.hid X.out; clear X
      refine (HD.out ⟨yr, ys⟩ _ _ (HR.out.below BW.out) (id_shut2 _ _)).mono ?_
      rintro e v2 ⟨cs2, rfl, hm2, hb⟩
      have X := Lib.hid (BW.out.trans (hb.mono BW.out.size)); clear BW hb
      have BW := Lib.hid X.out; clear X
      obtain ⟨_, _, A3, c3, rfl, _, hrd⟩ := InstD.open hm2.rep.any
      have HRD := Lib.hid hrd; clear hrd hm2 XB
      generalize (fInstAt xs ⟨yr, ys⟩).deps = D at *
      obtain ⟨md, hmd⟩ : ∃ md, md = D.length := ⟨_, rfl⟩
      rw [← hmd] at HRD hdl ⊢
      have HMD := Lib.hid hmd; clear hmd
      go_wp2_with (first | ((with_reducible show wpList _ _ _ ({ dst := _, op := Op.field _ _ _, type := _, pos := _, after := _, guard := _ } :: _) _ _); refine wpList_fld _ _ (.slice A3 md c3) rfl (fld_deps _ _ _ _ _ _ _ _ _ _ _ _ _ _ _ _ _) ?_) | fail)
      go_loopw [22] (fun jj ws => ∃ j : Nat, j ≤ md ∧ jj = .int .i64 (j : Int) ∧ (∀ q (hq : q < D.length), q < j → D[q] ∈ p ∨ D[q] ∈ t) ∧ Below v2.heap.size v2 ws) (fun jj _ => md - (intOf jj).toNat)
      case atStart => exact ⟨0, Nat.zero_le _, rfl, fun q _ hq => absurd hq (Nat.not_lt_zero _), Below.refl _ _⟩
      case round =>
        obtain ⟨j, hj, rfl, hall2, hbel2⟩ := hrel
        have HA2 := Lib.hid hall2; clear hall2
        have CV := Lib.hid hbel2
        have CW := Lib.hid (BW.out.trans (hbel2.mono BW.out.size)); clear hbel2
        by_cases hlt2 : j < md
        · have hjd : j < D.length := by have := HMD.out; omega
          obtain ⟨ad2, cj, rfl, _, _, hrc2, hl2, hc2⟩ := (HRD.out.below CV.out).elem IdD.width j hjd HMD.out
          obtain rfl := IdD.open hrc2
          have HC2 := Lib.hid hc2; clear hc2 hrc2 hl2
          have HN1 := Lib.hid (HNI.out j hjd)
          have HS1 := Lib.hid (show (D[j] ∈ p ∨ D[j] ∈ t) → ∀ q (hq : q < D.length), q < j + 1 → D[q] ∈ p ∨ D[q] ∈ t from fun hh q hq hqj => by
            by_cases e : q = j
            · subst e; exact hh
            · exact HA2.out q hq (by omega))
          clear HA2
          generalize D[j] = d at *
          obtain ⟨dr, ds⟩ := d
          simp only [] at HC2
          obtain ⟨gy, hgy⟩ : ∃ gy, gy = wr.heap.size := ⟨_, rfl⟩
          have HGY := Lib.hid hgy; clear hgy
          go_wp2_with (first
            | ((with_reducible show wpList _ _ _ ({ dst := _, op := Op.load 36 _, type := _, pos := _, after := _, guard := _ } :: _) _ _); first | refine wpList_load_row_g _ (by rfl) ⟨gy, 0, none⟩ rfl [.int .i64 dr, .int .i64 ds] agg_Id rfl (blk_cells YB.out) ?_ | refine wpList_load_row_g _ (by rfl) (ad2.add (j * 2)) rfl [.int .i64 dr, .int .i64 ds] agg_Id rfl HC2.out ?_)
            | ((with_reducible show wpList _ _ _ ({ dst := _, op := Op.store 36 _ _, type := _, pos := _, after := _, guard := _ } :: _) _ _); go_must (refine wpList_store_row _ wr.heap.size 36 0 [.int .i64 dr, .int .i64 ds] [] [.int .i64 0, .int .i64 0] [] _ rfl rfl agg_Id (blk_new wr _ _) rfl rfl rfl (by intro u hu; simp at hu; rcases hu with rfl | rfl <;> rfl) ?_; intro v3 h4 g4; rw [← HGY.out] at h4 g4 ⊢; have YB := Lib.hid (show Blk v3 gy 36 [.int .i64 dr, .int .i64 ds].toArray by simpa using h4); have D1 := Lib.hid (show Below wr.heap.size wr v3 from Below.grown ((Below.refl _ _).alloc (Nat.le_refl _) _) g4 (by simp) (fun k hk => by injection hk with hk; have := HGY.out; omega)); clear h4 g4))
            | fail)
          have X := Lib.hid (CW.out.trans (D1.out.mono CW.out.size)); clear CW
          have CW := Lib.hid X.out; clear X
          have X := Lib.hid (CV.out.trans (D1.out.mono CV.out.size)); clear CV D1
          have CV := Lib.hid X.out; clear X
          refine (HHP.out ⟨dr, ds⟩ _ _ (HP.out.below CW.out) (id_shut2 _ _)).mono ?_
          rintro e v4 ⟨rfl, hb⟩
          have X := Lib.hid (CW.out.trans (hb.mono CW.out.size)); clear CW
          have CW := Lib.hid X.out; clear X
          have X := Lib.hid (CV.out.trans (hb.mono CV.out.size)); clear CV
          have CV := Lib.hid X.out; clear X
          have X := Lib.hid (YB.out.below hb); clear YB hb
          have YB := Lib.hid X.out; clear X
          rw [hasB_dec]
          cases h1 : decide ((⟨dr, ds⟩ : IdD) ∈ p) with
          | true =>
            have hm1 := of_decide_eq_true h1
            go_wp2
            exact ⟨⟨j + 1, by omega, by go_num, HS1.out (.inl hm1), CV.out⟩, by simp only [intOf]; omega⟩
          | false =>
            have HM1 := Lib.hid (of_decide_eq_false h1); clear h1
            go_wp2_with (first | ((with_reducible show wpList _ _ _ ({ dst := _, op := Op.load 36 _, type := _, pos := _, after := _, guard := _ } :: _) _ _); refine wpList_load_row_g _ (by rfl) ⟨gy, 0, none⟩ rfl [.int .i64 dr, .int .i64 ds] agg_Id rfl (blk_cells YB.out) ?_) | fail)
            refine (HHT.out ⟨dr, ds⟩ _ _ (HT.out.below CW.out) (id_shut2 _ _)).mono ?_
            rintro e v5 ⟨rfl, hb⟩
            have X := Lib.hid (CW.out.trans (hb.mono CW.out.size)); clear CW
            have CW := Lib.hid X.out; clear X
            have X := Lib.hid (CV.out.trans (hb.mono CV.out.size)); clear CV hb
            have CV := Lib.hid X.out; clear X
            rw [hasB_dec]
            cases h2 : decide ((⟨dr, ds⟩ : IdD) ∈ t) with
            | true =>
              have hm2 := of_decide_eq_true h2
              go_wp2
              exact ⟨⟨j + 1, by omega, by go_num, HS1.out (.inr hm2), CV.out⟩, by simp only [intOf]; omega⟩
            | false =>
              have HF := Lib.hid (HN1.out HM1.out (of_decide_eq_false h2)); clear h2
              go_wp2
              go_ret
              exact ⟨ret_eq (by rw [HF.out]; rfl), CW.out⟩
        · have hjn : j = md := by omega
          subst hjn
          have HS := Lib.hid (HST.out (fun q hq => HA2.out q hq (by have := HMD.out; omega)))
          go_wp2
          exact ⟨⟨i + 1, by omega, by go_num, HS.out, CW.out⟩, by simp only [intOf]; omega⟩
    · have hjn : i = m1 := by omega
      subst hjn
      have HF := Lib.hid (HY.out (fun q hq => HA.out q hq (by have := H1.out; omega)))
      go_wp2
      go_ret
      exact ⟨ret_eq (by rw [HF.out]; rfl), BW.out⟩

end Go.Proofs.Ytoffelfcmfpooaa
namespace Go.Proofs.Ytoffelfcmfpooaa
open Go.RowKit

theorem fill_get : ∀ (L : List Value) (k : Nat) (acc : Array Value) (i : Nat), ((L.zipIdx k).foldl (fun (a : Array Value) (p : Value × Nat) => a.setIfInBounds (0 + p.2) p.1) acc)[i]? = if k ≤ i ∧ i < k + L.length ∧ i < acc.size then L[i - k]? else acc[i]?
  | [], k, acc, i => by
    rw [if_neg (by rintro ⟨h1, h2, _⟩; simp at h2; omega)]
    rfl
  | x :: L, k, acc, i => by
    rw [List.zipIdx_cons, List.foldl_cons, fill_get L (k + 1) _ i, Array.size_setIfInBounds, Array.getElem?_setIfInBounds, List.length_cons]
    by_cases h0 : i = k
    · subst h0
      rw [if_neg (by omega), if_pos (by omega)]
      by_cases h1 : i < acc.size
      · rw [if_pos (by omega), if_pos (by omega)]; simp
      · rw [if_neg (by omega), if_neg (by omega)]; simp; omega
    · by_cases h1 : k + 1 ≤ i ∧ i < k + 1 + L.length ∧ i < acc.size
      · rw [if_pos h1, if_pos (by omega), show i - k = (i - (k + 1)) + 1 by omega, List.getElem?_cons_succ]
      · rw [if_neg h1, if_neg (by omega), if_neg (by omega)]
theorem fill_over (cur : Array Value) (cs : List Value) (n : Nat) (h1 : cs.length = n) (h2 : cur.size = n) : Instr.fill (fun i => some (i * n, n)) cur [(0, .agg cs.toArray)] = some cs.toArray := by
  have hc : (Value.agg cs.toArray).cells = cs.toArray := rfl
  simp only [Instr.fill, hc, Nat.zero_mul, List.size_toArray]
  rw [if_neg (by rw [h1]; simp; omega)]
  congr 1
  apply Array.ext_getElem?
  intro i
  rw [← Array.foldl_toList, Array.toList_zipIdx]
  rw [fill_get cs 0 cur i]
  split
  · simp
  · rw [Array.getElem?_eq_none (by omega)]; simp; omega
set_option maxRecDepth 100000 in
theorem wpList_build1 {ops : Array Oper} {rest : List Oper} {o : Oper} {a : Act} {w : World} {Q : Exit → Act → World → Prop} (hg : o.guard = none) (x : Operand) (ho : o.op = .buildSlice 33 1 #[(0, x)]) (cs : List Value) (hl : cs.length = 16) (hx : a.eval x = .agg cs.toArray)
    (h : wpList Try.prog ops Q rest (a.put o.dst (.slice (some ⟨w.heap.size, 0, none⟩) 1 1)) (w.alloc (.cells cs.toArray 40))) : wpList Try.prog ops Q (o :: rest) a w := by
  obtain ⟨ie, hie⟩ : ∃ ie, Try.prog.info? 40 = some ie := by
    have := E_Inst.hi
    cases hh : Try.prog.info? 40 with
    | none => rw [hh] at this; cases this
    | some ie => exact ⟨ie, rfl⟩
  have hi := E_Inst.hi
  rw [hie] at hi
  simp only [Option.map_some, Option.some.injEq, Prod.mk.injEq] at hi
  obtain ⟨hz, hs, _⟩ := hi
  refine wpList_buildSlice hg 33 40 1 _ ho cs.toArray ie _ E_Inst.ht hie hz (by rw [hs]; decide) (by rw [hs]; decide) ?_ h
  rw [hs]
  have e : (Array.map (fun (x : Nat × Operand) => (x.1, a.eval x.2)) #[(0, x)]).toList = [(0, .agg cs.toArray)] := by
    simp [hx]
  show Instr.fill _ _ (Array.map (fun (x : Nat × Operand) => (x.1, a.eval x.2)) #[(0, x)]).toList = _
  rw [e]
  exact fill_over _ _ 16 hl (by simp)
theorem row_app {w w' : World} {base e sz n : Nat} {α : Type} {f : α → Cs} {xs : List α} {x : α} {v v' : Value} {cells cs : List Value} {F F' : List Nat} (hn : n = xs.length) (hf : ∀ x, (f x).width = sz)
    (ho : Own w base (cat f xs) cells F) (hnd : (v.ownBlock.toList ++ F).Nodup) (hx : Own w base (f x) cs F') (hnd' : F'.Nodup) (hdis : ∀ b ∈ F', b ∉ v.ownBlock.toList ++ F)
    (h' : w'.ownsRow base e sz v' (n + 1) (cells ++ cs)) (hg : w.grownBy w' v.ownBlock) (hat : v'.ownBlock = v.ownBlock ∨ v'.ownBlock = some w.heap.size) :
    Mine w' base (.sl e sz (n + 1) (cat f (xs ++ [x])) .nil) [v'] := by
  have hv : ∀ b ∈ F, v.ownBlock ≠ some b := fun b hb e => by
    rw [e] at hnd
    simp at hnd
    exact hnd.1 hb
  have hv' : ∀ b ∈ F', v.ownBlock ≠ some b := fun b hb e => hdis b hb (by simp [e])
  have hFF : (F ++ F').Nodup := List.nodup_append.2 ⟨(List.nodup_append.1 hnd).2.1, hnd', fun a ha b hb e => hdis b hb (by rw [← e]; exact List.mem_append_right _ ha)⟩
  refine ⟨v'.ownBlock.toList ++ (F ++ F'), ?_, Own.sl1.2 ⟨cells ++ cs, F ++ F', rfl, ?_, h', ?_⟩⟩
  · rcases hat with e | e
    · rw [e]
      refine List.nodup_append.2 ⟨by cases v.ownBlock <;> simp, hFF, fun a ha b hb e2 => ?_⟩
      subst e2
      have ha' : v.ownBlock = some a := by simpa using ha
      rcases List.mem_append.1 hb with h | h
      · exact hv a h ha'
      · exact hv' a h ha'
    · rw [e]
      refine List.nodup_append.2 ⟨by simp, hFF, fun a ha b hb e2 => ?_⟩
      subst e2
      have ha' : a = w.heap.size := by simpa using ha
      subst ha'
      rcases List.mem_append.1 hb with h | h
      · exact Nat.lt_irrefl _ (ho.in _ h).2
      · exact Nat.lt_irrefl _ (hx.in _ h).2
  · rw [cat_width hf, List.length_append, hn]; rfl
  · rw [cat_app, cat_one]
    exact Own.app.2 ⟨_, _, _, _, rfl, rfl, ho.keep (fun b hb => hg.block b (ho.in b hb).2 (fun e => hv b hb e.symm)), hx.keep (fun b hb => hg.block b (hx.in b hb).2 (fun e => hv' b hb e.symm))⟩
theorem mine_open {w : World} {base e sz n : Nat} {i : Cs} {v : Value} (h : Mine w base (.sl e sz n i .nil) [v]) : ∃ cells F, w.ownsRow base e sz v n cells ∧ Own w base i cells F ∧ (v.ownBlock.toList ++ F).Nodup ∧ i.width = n * sz := by
  obtain ⟨F0, nd, o⟩ := h
  obtain ⟨cells, F, rfl, hw, hr, hi⟩ := Own.sl1.1 o
  exact ⟨cells, F, hr, hi, nd, hw⟩
theorem mine_open_lt {w : World} {base e sz n : Nat} {i : Cs} {v : Value} {cells : List Value} {F : List Nat} (h1 : w.ownsRow base e sz v n cells) (h2 : Own w base i cells F) : ∀ b ∈ v.ownBlock.toList ++ F, b < w.heap.size := fun b hb => by
  rcases List.mem_append.1 hb with h | h
  · exact (h1.lt b (by simpa using h)).2
  · exact (h2.in b h).2
theorem mine_row0 (w : World) {base e sz : Nat} : Mine w base (.sl e sz 0 .nil .nil) [.slice none 0 0] := ⟨[], List.nodup_nil, Own.sl1.2 ⟨[], [], rfl, by simp [Cs.width], ⟨by simp, .inl ⟨rfl, rfl⟩⟩, Own.nil.2 ⟨rfl, rfl⟩⟩⟩
theorem mine_row1 {w : World} {base e sz c g : Nat} (h : w.ownsRow base e sz (.slice (some ⟨g, 0, none⟩) 0 c) 0 []) : Mine w base (.sl e sz 0 .nil .nil) [.slice (some ⟨g, 0, none⟩) 0 c] := ⟨[g], by simp, Own.sl1.2 ⟨[], [], rfl, by simp [Cs.width], h, Own.nil.2 ⟨rfl, rfl⟩⟩⟩

set_option maxRecDepth 100000 in
set_option maxHeartbeats 4000000 in
theorem copyInsts_any (xs : List InstD) (A : Option Addr) (n c : Nat) (w : World) (hn : n = xs.length) (hn1 : n ≤ 2097152) (hwt : ∀ y ∈ xs, (y.c).wt ≤ 1048576) (h : Rep anyB w (.sl 40 16 n (cat InstD.c xs) .nil) [.slice A n c]) :
    Calls Try.prog 37 #[.slice A n c] w fun e w' => ∃ A' c', e = .returned (.slice A' n c') ∧ Mine w' w.heap.size (.sl 40 16 n (cat InstD.c xs) .nil) [.slice A' n c'] ∧ Below w.heap.size w w' := by
  have HR := Lib.hid h; clear h
  have HN := Lib.hid hn; clear hn
  have HWT := Lib.hid hwt; clear hwt
  go_enter Try.func37, Try.ntmps37
  go_wp2
  go_loopw [3, 8] (fun oo ii wr => ∃ (j : Nat) (A' : Option Addr) (c' : Nat), j ≤ n ∧ ii = .int .i64 (j : Int) ∧ oo = .slice A' j c' ∧ Mine wr w.heap.size (.sl 40 16 j (cat InstD.c (xs.take j)) .nil) [.slice A' j c'] ∧ Below w.heap.size w wr) (fun _ ii _ => n - (intOf ii).toNat)
  case atStart => exact ⟨0, none, 0, Nat.zero_le _, rfl, rfl, mine_row0 _, Below.refl _ _⟩
  case round =>
    obtain ⟨j, A', c', hj, rfl, rfl, hm, hbel⟩ := hrel
    have L0 := Lib.hid hm; clear hm
    have L5 := Lib.hid hbel; clear hbel
    by_cases hlt : j < n
    · have hjx : j < xs.length := by have := HN.out; omega
      obtain ⟨ad, ci, rfl, _, _, hrc, hl, hc⟩ := (HR.out.below L5.out).elem InstD.width j hjx HN.out
      have hst : xs.take (j + 1) = xs.take j ++ [xs[j]] := List.take_succ_eq_append_getElem hjx
      have hsl := HWT.out _ (List.getElem_mem hjx)
      have hjl : j = (xs.take j).length := by rw [List.length_take, Nat.min_eq_left (Nat.le_of_lt hjx)]
      generalize xs[j] = x at *
      have HJL := Lib.hid hjl; clear hjl
      have HL := Lib.hid hl; clear hl
      have HC := Lib.hid hc; clear hc
      have HRC := Lib.hid hrc; clear hrc
      have HST := Lib.hid hst; clear hst
      have HSL := Lib.hid hsl; clear hsl
      obtain ⟨cells, F, hr0, ho0, hnd0, _⟩ := mine_open L0.out
      have R0 := Lib.hid hr0
      have O0 := Lib.hid ho0
      have N0 := Lib.hid hnd0
      have LT0 := Lib.hid (mine_open_lt hr0 ho0); clear hr0 ho0 hnd0
      go_wp2_with (first
        | ((with_reducible show wpList _ _ _ ({ dst := _, op := Op.store 40 _ _, type := _, pos := _, after := _, guard := _ } :: _) _ _); go_must (refine wpList_store_row _ wr.heap.size 40 0 ci [] [.int .i64 0, .int .i64 0, .int .i64 0, .int .i64 0, .int .i64 0, .int .i64 0, .int .i64 0, .int .i64 0, .string ⟨#[]⟩, .string ⟨#[]⟩, .string ⟨#[]⟩, .int .i64 0, .slice none 0 0, .int .i64 0, .slice none 0 0, .bool false] [] _ rfl rfl (HL.out ▸ agg_Inst) (blk_new wr _ _) rfl rfl HL.out.symm HRC.out.one ?_; intro v1 h4 g4; have C1 := Lib.hid (show Blk v1 wr.heap.size 40 ci.toArray by simpa using h4); have D1 := Lib.hid (show Below wr.heap.size wr v1 from Below.grown ((Below.refl _ _).alloc (Nat.le_refl _) _) g4 (by simp) (fun k hk => by injection hk with hk; omega)); clear h4 g4))
        | ((with_reducible show wpList _ _ _ ({ dst := _, op := Op.load 40 _, type := _, pos := _, after := _, guard := _ } :: _) _ _); first | refine wpList_load_row _ ⟨wr.heap.size, 0, none⟩ rfl ci agg_Inst HL.out (blk_cells C1.out) ?_ | refine wpList_load_row _ (ad.add (j * 16)) rfl ci agg_Inst HL.out HC.out ?_)
        | fail)
      refine (copyInst_any x ci _ HSL.out (HRC.out.below D1.out)).mono ?_; rintro e v2 ⟨cs', rfl, ⟨F', n', o'⟩, hb⟩
      have HL2 := Lib.hid (show cs'.length = 16 from o'.length.trans (InstD.width _))
      have N1 := Lib.hid n'; clear n'
      have O1 := Lib.hid o'; clear o'
      have BB := Lib.hid (D1.out.trans (hb.mono D1.out.size))
      have D1S := Lib.hid (Nat.le_trans L5.out.size D1.out.size)
      have D1T := Lib.hid D1.out.size
      clear hb D1 C1
      go_wp2_with (first
        | ((with_reducible show wpList _ _ _ ({ dst := _, op := Op.buildSlice _ _ _, type := _, pos := _, after := _, guard := _ } :: _) _ _); go_must (refine wpList_build1 rfl (.tmp 14) rfl cs' HL2.out rfl ?_))
        | (at_builtin; go_must (refine wpList_app E_Inst _ rfl (.tmp 12) (.tmp 15) rfl w.heap.size _ j cells rfl ((R0.out.keptBelowJ BB.out).alloc _) _ _ _ _ rfl (Reads.new (e := 40) (by simp [HL2.out])) O1.out.one (by omega) (by have h1 := L5.out.size; have h2 := BB.out.size; simp; omega) ?_; intro v' w5 hown5 hg5 hat5; have W5 := Lib.hid hown5; have G5 := Lib.hid hg5; have T5 := Lib.hid hat5; clear hown5 hg5 hat5))
        | fail)
      obtain ⟨Av, kv, rfl, _⟩ := SlR.of_own W5.out
      refine ⟨⟨j + 1, Av, kv, by omega, by go_num, rfl, ?_, ?_⟩, by simp only [intOf]; omega⟩
      · rw [HST.out]
        refine row_app HJL.out InstD.width ((O0.out.below BB.out).below ((Below.refl _ _).alloc (Nat.le_refl _) _)) N0.out ((O1.out.mono D1S.out).below ((Below.refl _ _).alloc (Nat.le_refl _) _)) N1.out (fun b hb hm => ?_) W5.out G5.out T5.out
        have h1 := LT0.out b hm
        have h2 := (O1.out.in b hb).1
        have h3 := D1T.out
        omega
      · exact Below.grown ((L5.out.trans (BB.out.mono L5.out.size)).alloc (Nat.le_trans L5.out.size BB.out.size) _) G5.out (by have h1 := L5.out.size; have h2 := BB.out.size; simp; omega) (fun k hk => ((R0.out.lt k hk).1))
    · have hjn : j = n := by omega
      subst hjn
      have hall : xs.take j = xs := List.take_of_length_le (by have := HN.out; omega)
      have h0 := L0.out
      rw [hall] at h0
      have H0 := Lib.hid h0; clear h0 hall
      go_wp2
      go_ret
      exact ⟨_, _, rfl, H0.out, L5.out⟩

set_option maxRecDepth 100000 in
set_option maxHeartbeats 4000000 in
theorem l8CopyAll_any (xs : List InstD) (A : Option Addr) (n c : Nat) (w : World) (hn : n = xs.length) (hn1 : n ≤ 2097152) (hwt : ∀ y ∈ xs, (y.c).wt ≤ 1048576) (h : Rep anyB w (.sl 40 16 n (cat InstD.c xs) .nil) [.slice A n c]) :
    Calls Try.prog 31 #[.slice A n c] w fun e w' => ∃ A' c', e = .returned (.slice A' n c') ∧ Mine w' w.heap.size (.sl 40 16 n (cat InstD.c xs) .nil) [.slice A' n c'] ∧ Below w.heap.size w w' := by
  have HR := Lib.hid h; clear h
  have HN := Lib.hid hn; clear hn
  have HWT := Lib.hid hwt; clear hwt
  go_enter Try.func31, Try.ntmps31
  go_wp2
  go_loopw [3, 4] (fun oo ii wr => ∃ (j : Nat) (A' : Option Addr) (c' : Nat), j ≤ n ∧ ii = .int .i64 (j : Int) ∧ oo = .slice A' j c' ∧ Mine wr w.heap.size (.sl 40 16 j (cat InstD.c (xs.take j)) .nil) [.slice A' j c'] ∧ Below w.heap.size w wr) (fun _ ii _ => n - (intOf ii).toNat)
  case atStart => exact ⟨0, some ⟨w.heap.size, 0, none⟩, 0, Nat.zero_le _, rfl, rfl, mine_row1 (World.ownsRow_made w #[] 0 (Nat.le_refl _) (by simp [maxLen]) rfl), (by repeat' (first | with_reducible exact Below.refl _ _ | with_reducible exact BW.out | with_reducible refine Below.setCell ?_ ?_ _ | with_reducible refine Below.alloc ?_ ?_ _ | with_reducible refine Below.drew ?_ | (simp; done) | (simp; omega) | omega))⟩
  case round =>
    obtain ⟨j, A', c', hj, rfl, rfl, hm, hbel⟩ := hrel
    have L0 := Lib.hid hm; clear hm
    have L5 := Lib.hid hbel; clear hbel
    by_cases hlt : j < n
    · have hjx : j < xs.length := by have := HN.out; omega
      obtain ⟨ad, ci, rfl, _, _, hrc, hl, hc⟩ := (HR.out.below L5.out).elem InstD.width j hjx HN.out
      have hst : xs.take (j + 1) = xs.take j ++ [xs[j]] := List.take_succ_eq_append_getElem hjx
      have hsl := HWT.out _ (List.getElem_mem hjx)
      have hjl : j = (xs.take j).length := by rw [List.length_take, Nat.min_eq_left (Nat.le_of_lt hjx)]
      generalize xs[j] = x at *
      have HJL := Lib.hid hjl; clear hjl
      have HL := Lib.hid hl; clear hl
      have HC := Lib.hid hc; clear hc
      have HRC := Lib.hid hrc; clear hrc
      have HST := Lib.hid hst; clear hst
      have HSL := Lib.hid hsl; clear hsl
      obtain ⟨cells, F, hr0, ho0, hnd0, _⟩ := mine_open L0.out
      have R0 := Lib.hid hr0
      have O0 := Lib.hid ho0
      have N0 := Lib.hid hnd0
      have LT0 := Lib.hid (mine_open_lt hr0 ho0); clear hr0 ho0 hnd0
      go_wp2_with (first
        | ((with_reducible show wpList _ _ _ ({ dst := _, op := Op.load 40 _, type := _, pos := _, after := _, guard := _ } :: _) _ _); refine wpList_load_row _ (ad.add (j * 16)) rfl ci agg_Inst HL.out HC.out ?_)
        | fail)
      refine (l8Copy_any x ci _ HSL.out HRC.out).mono ?_; rintro e v2 ⟨cs', rfl, ⟨F', n', o'⟩, hb⟩
      have HL2 := Lib.hid (show cs'.length = 16 from o'.length.trans (InstD.width _))
      have N1 := Lib.hid n'; clear n'
      have O1 := Lib.hid o'; clear o'
      have BB := Lib.hid hb; clear hb
      go_wp2_with (first
        | ((with_reducible show wpList _ _ _ ({ dst := _, op := Op.buildSlice _ _ _, type := _, pos := _, after := _, guard := _ } :: _) _ _); go_must (refine wpList_build1 rfl (.tmp 17) rfl cs' HL2.out rfl ?_))
        | (at_builtin; go_must (refine wpList_app E_Inst _ rfl (.tmp 12) (.tmp 18) rfl w.heap.size _ j cells rfl ((R0.out.keptBelowJ BB.out).alloc _) _ _ _ _ rfl (Reads.new (e := 40) (by simp [HL2.out])) O1.out.one (by omega) (by have h1 := L5.out.size; have h2 := BB.out.size; simp; omega) ?_; intro v' w5 hown5 hg5 hat5; have W5 := Lib.hid hown5; have G5 := Lib.hid hg5; have T5 := Lib.hid hat5; clear hown5 hg5 hat5))
        | fail)
      obtain ⟨Av, kv, rfl, _⟩ := SlR.of_own W5.out
      refine ⟨⟨j + 1, Av, kv, by omega, by go_num, rfl, ?_, ?_⟩, by simp only [intOf]; omega⟩
      · rw [HST.out]
        refine row_app HJL.out InstD.width ((O0.out.below BB.out).below ((Below.refl _ _).alloc (Nat.le_refl _) _)) N0.out ((O1.out.mono L5.out.size).below ((Below.refl _ _).alloc (Nat.le_refl _) _)) N1.out (fun b hb hm => ?_) W5.out G5.out T5.out
        have h1 := LT0.out b hm
        have h2 := (O1.out.in b hb).1
        omega
      · exact Below.grown ((L5.out.trans (BB.out.mono L5.out.size)).alloc (Nat.le_trans L5.out.size BB.out.size) _) G5.out (by have h1 := L5.out.size; have h2 := BB.out.size; simp; omega) (fun k hk => ((R0.out.lt k hk).1))
    · have hjn : j = n := by omega
      subst hjn
      have hall : xs.take j = xs := List.take_of_length_le (by have := HN.out; omega)
      have h0 := L0.out
      rw [hall] at h0
      have H0 := Lib.hid h0; clear h0 hall
      go_wp2
      go_ret
      exact ⟨_, _, rfl, H0.out, L5.out⟩

end Go.Proofs.Ytoffelfcmfpooaa
namespace Go.Proofs.Ytoffelfcmfpooaa
open Go.RowKit

def partC (p : List IdD) : Cs := .sl 36 2 p.length (cat IdD.c p) .nil
theorem partC_width (p : List IdD) : (partC p).width = 1 := rfl
theorem E_IdS : Elem Try.prog 47 38 (.slice none 0 0) 1 24 := ⟨Try.underlying47, by kernel_rfl, rfl, by decide, by decide⟩
theorem row_appF {w w' : World} {base e sz n : Nat} {α : Type} {f : α → Cs} {xs : List α} {x : α} {v v' : Value} {cells cs : List Value} {F F' : List Nat} (hn : n = xs.length) (hf : ∀ x, (f x).width = sz)
    (ho : Own w base (cat f xs) cells F) (hnd : (v.ownBlock.toList ++ F).Nodup) (hx : Own w base (f x) cs F') (hnd' : F'.Nodup) (hdis : ∀ b ∈ F', b ∉ v.ownBlock.toList ++ F)
    (h' : w'.ownsRow base e sz v' (n + 1) (cells ++ cs)) (hg : w.grownBy w' v.ownBlock) (hat : v'.ownBlock = v.ownBlock ∨ v'.ownBlock = some w.heap.size) :
    ∃ Fn, Fn.Nodup ∧ Own w' base (.sl e sz (n + 1) (cat f (xs ++ [x])) .nil) [v'] Fn ∧ ∀ b ∈ Fn, b ∈ F ∨ b ∈ F' ∨ v'.ownBlock = some b := by
  have hv : ∀ b ∈ F, v.ownBlock ≠ some b := fun b hb e => by
    rw [e] at hnd
    simp at hnd
    exact hnd.1 hb
  have hv' : ∀ b ∈ F', v.ownBlock ≠ some b := fun b hb e => hdis b hb (by simp [e])
  have hFF : (F ++ F').Nodup := List.nodup_append.2 ⟨(List.nodup_append.1 hnd).2.1, hnd', fun a ha b hb e => hdis b hb (by rw [← e]; exact List.mem_append_right _ ha)⟩
  refine ⟨v'.ownBlock.toList ++ (F ++ F'), ?_, Own.sl1.2 ⟨cells ++ cs, F ++ F', rfl, ?_, h', ?_⟩, fun b hb => ?_⟩
  · rcases hat with e | e
    · rw [e]
      refine List.nodup_append.2 ⟨by cases v.ownBlock <;> simp, hFF, fun a ha b hb e2 => ?_⟩
      subst e2
      have ha' : v.ownBlock = some a := by simpa using ha
      rcases List.mem_append.1 hb with h | h
      · exact hv a h ha'
      · exact hv' a h ha'
    · rw [e]
      refine List.nodup_append.2 ⟨by simp, hFF, fun a ha b hb e2 => ?_⟩
      subst e2
      have ha' : a = w.heap.size := by simpa using ha
      subst ha'
      rcases List.mem_append.1 hb with h | h
      · exact Nat.lt_irrefl _ (ho.in _ h).2
      · exact Nat.lt_irrefl _ (hx.in _ h).2
  · rw [cat_width hf, List.length_append, hn]; rfl
  · rw [cat_app, cat_one]
    exact Own.app.2 ⟨_, _, _, _, rfl, rfl, ho.keep (fun b hb => hg.block b (ho.in b hb).2 (fun e => hv b hb e.symm)), hx.keep (fun b hb => hg.block b (hx.in b hb).2 (fun e => hv' b hb e.symm))⟩
  · rcases List.mem_append.1 hb with h | h
    · exact .inr (.inr (by simpa using h))
    · rcases List.mem_append.1 h with h | h
      · exact .inl h
      · exact .inr (.inl h)
theorem partC_own {w : World} {base m c : Nat} {A : Option Addr} {p : List IdD} (hm : m = p.length) (h : w.ownsRow base 36 2 (.slice A m c) m (idCells p)) : Own w base (partC p) [.slice A m c] (Value.slice A m c).ownBlock.toList := by
  subst hm
  exact Own.sl1.2 ⟨idCells p, [], (List.append_nil _).symm, by rw [cat_width IdD.width], h, own_ids w base p⟩
/-- the row of components, and a row beside it -/
structure POut (w : World) (base : Nat) (v : Value) (q : Nat) (ps : List (List IdD)) (g2 : Nat) : Prop where
  out : ∃ F, F.Nodup ∧ Own w base (.sl 38 1 q (cat partC ps) .nil) [v] F ∧ g2 ∉ F
theorem POut.mine {w : World} {base q g2 : Nat} {v : Value} {ps : List (List IdD)} (h : POut w base v q ps g2) : Mine w base (.sl 38 1 q (cat partC ps) .nil) [v] := let ⟨F, h1, h2, _⟩ := h.out; ⟨F, h1, h2⟩
theorem POut.below {w w' : World} {base q g2 : Nat} {v : Value} {ps : List (List IdD)} (h : POut w base v q ps g2) (hb : Below w.heap.size w w') : POut w' base v q ps g2 := let ⟨F, h1, h2, h3⟩ := h.out; ⟨F, h1, h2.below hb, h3⟩
theorem POut.rep {w : World} {base q g2 : Nat} {v : Value} {ps : List (List IdD)} (h : POut w base v q ps g2) : Rep anyB w (.sl 38 1 q (cat partC ps) .nil) [v] := let ⟨_, _, h2, _⟩ := h.out; h2.repAny
/-- the row beside it grows -/
theorem POut.side {w w' : World} {base q g2 g3 : Nat} {v : Value} {ps : List (List IdD)} (h : POut w base v q ps g2) (hg : w.grownBy w' (some g2)) (h3 : g3 = g2 ∨ w.heap.size ≤ g3) : POut w' base v q ps g3 := by
  obtain ⟨F, h1, h2, hn⟩ := h.out
  refine ⟨F, h1, h2.keep (fun b hb => hg.block b (h2.in b hb).2 (fun e => hn (by injection e with e; rw [← e]; exact hb))), ?_⟩
  rcases h3 with rfl | h3
  · exact hn
  · exact fun hm => by have := (h2.in _ hm).2; omega
/-- a component is put behind -/
theorem POut.add {w w' : World} {base q g2 m c : Nat} {v v' : Value} {ps : List (List IdD)} {p : List IdD} {A : Option Addr} {cells : List Value} {F : List Nat}
    (hq : q = ps.length) (ho : Own w base (cat partC ps) cells F) (hnd : (v.ownBlock.toList ++ F).Nodup) (h2 : g2 ∉ v.ownBlock.toList ++ F) (h2w : g2 < w.heap.size)
    (hm : m = p.length) (hp : w.ownsRow base 36 2 (.slice A m c) m (idCells p)) (hp2 : ∀ b, (Value.slice A m c).ownBlock = some b → b ∉ v.ownBlock.toList ++ F ∧ b ≠ g2)
    (h' : w'.ownsRow base 38 1 v' (q + 1) (cells ++ [.slice A m c])) (hg : w.grownBy w' v.ownBlock) (hat : v'.ownBlock = v.ownBlock ∨ v'.ownBlock = some w.heap.size) : POut w' base v' (q + 1) (ps ++ [p]) g2 := by
  have hx := partC_own hm hp
  obtain ⟨Fn, hn, hown, hmem⟩ := row_appF hq partC_width ho hnd hx (nodup_own _) (fun b hb => (hp2 b (by simpa using hb)).1) h' hg hat
  refine ⟨Fn, hn, hown, fun hm2 => ?_⟩
  rcases hmem g2 hm2 with h | h | h
  · exact h2 (List.mem_append_right _ h)
  · exact (hp2 g2 (by simpa using h)).2 rfl
  · rcases hat with e | e
    · rw [e] at h; exact h2 (List.mem_append_left _ (by simpa using h))
    · rw [e] at h; injection h with h; omega
theorem POut.open {w : World} {base q g2 : Nat} {v : Value} {ps : List (List IdD)} (h : POut w base v q ps g2) : ∃ cells F, w.ownsRow base 38 1 v q cells ∧ Own w base (cat partC ps) cells F ∧ (v.ownBlock.toList ++ F).Nodup ∧ g2 ∉ v.ownBlock.toList ++ F := by
  obtain ⟨F0, nd, o, hn⟩ := h.out
  obtain ⟨cells, F, rfl, _, hr, hi⟩ := Own.sl1.1 o
  exact ⟨cells, F, hr, hi, nd, hn⟩
/-- the Ids that are not told -/
def leftN (ids told : List IdD) : Nat := (ids.filter fun x => !decide (x ∈ told)).length
theorem leftN_add {ids told p : List IdD} {x : IdD} (hx : x ∈ ids) (ht : x ∉ told) (hp : x ∈ p) : leftN ids (told ++ p) < leftN ids told := by
  unfold leftN
  induction ids with
  | nil => cases hx
  | cons y r ih =>
    have hle : ∀ (l : List IdD), (l.filter fun x => !decide (x ∈ told ++ p)).length ≤ (l.filter fun x => !decide (x ∈ told)).length := by
      intro l
      induction l with
      | nil => exact Nat.le_refl _
      | cons z l ih2 =>
        rw [List.filter_cons, List.filter_cons]
        by_cases h1 : z ∈ told
        · rw [if_neg (by simp [h1]), if_neg (by simp [h1])]; exact ih2
        · rw [if_pos (c := (!decide (z ∈ told)) = true) (by simp [h1])]
          split
          · simp only [List.length_cons]; omega
          · simp only [List.length_cons]; omega
    rw [List.filter_cons, List.filter_cons]
    by_cases he : y = x
    · subst he
      rw [if_neg (by simp [hp]), if_pos (by simp [ht])]
      have := hle r
      simp only [List.length_cons]; omega
    · have hxr : x ∈ r := (List.mem_cons.1 hx).resolve_left fun e => he e.symm
      have := ih hxr
      by_cases h1 : y ∈ told
      · rw [if_neg (by simp [h1]), if_neg (by simp [h1])]; exact this
      · rw [if_pos (c := (!decide (y ∈ told)) = true) (by simp [h1])]
        split
        · simp only [List.length_cons]; omega
        · simp only [List.length_cons]; omega
theorem partF_le {xs : List InstD} (id : IdD) : (partF xs id).length ≤ xs.length := by
  have := partFrom_len (xs := xs) (id := id) (idsOf xs) []
  unfold partF
  unfold idsOf at this ⊢
  simpa using this

set_option maxRecDepth 100000 in
set_option maxHeartbeats 8000000 in
theorem sParts_any (xs : List InstD) (A : Option Addr) (n c : Nat) (w : World) (hn : n = xs.length) (hwt : n + (cat InstD.c xs).wt ≤ 1048576) (h : Rep anyB w (.sl 40 16 n (cat InstD.c xs) .nil) [.slice A n c]) :
    Calls Try.prog 17 #[.slice A n c] w fun e w' => ∃ A2 m c2, e = .returned (.slice A2 m c2) ∧ m = (fParts xs).length ∧ Mine w' w.heap.size (.sl 38 1 m (cat partC (fParts xs)) .nil) [.slice A2 m c2] ∧ Below w.heap.size w w' := by
  have HOK := Lib.hid (fun W h => sInstsOk_any xs A n c W hn hwt h)
  have HR := Lib.hid h; clear h
  obtain ⟨R, hR⟩ : ∃ R, R = fParts xs := ⟨_, rfl⟩
  rw [← hR]
  have HW1 := Lib.hid (show (w.alloc (.cells #[] 38)).ownsRow w.heap.size 38 1 (.slice (some ⟨w.heap.size, 0, none⟩) 0 0) 0 [] from World.ownsRow_made w #[] 0 (Nat.le_refl _) (by simp [maxLen]) rfl)
  have HW2 := Lib.hid (show ((w.alloc (.cells #[] 38)).alloc (.cells #[] 36)).ownsRow w.heap.size 36 2 (.slice (some ⟨w.heap.size + 1, 0, none⟩) 0 0) 0 (idCells []) from own_nilAt _ _ _ _ _ (by simp) (by simp))
  have HP0 := Lib.hid (show POut ((w.alloc (.cells #[] 38)).alloc (.cells #[] 36)) w.heap.size (.slice (some ⟨w.heap.size, 0, none⟩) 0 0) 0 [] (w.heap.size + 1) from ⟨[w.heap.size], by simp, Own.sl1.2 ⟨[], [], rfl, by simp [Cs.width, cat], HW1.out.alloc _, Own.nil.2 ⟨rfl, rfl⟩⟩, by simp⟩)
  clear HW1
  cases hok : instsOkB xs with
  | false =>
    have hR2 : R = [] := by rw [hR, fParts, if_neg (by simp [hok])]
    subst hR2
    clear hR hn hwt
    rw [hok] at HOK
    go_enter Try.func17, Try.ntmps17
    go_wp2
    go_loopw [3, 4] (fun oo tt wr => oo = .slice (some ⟨w.heap.size, 0, none⟩) 0 0 ∧ POut wr w.heap.size (.slice (some ⟨w.heap.size, 0, none⟩) 0 0) 0 [] (w.heap.size + 1) ∧ Below w.heap.size w wr) (fun _ _ _ => 0)
    case atStart => exact ⟨rfl, HP0.out, (by repeat' (first | with_reducible exact Below.refl _ _ | with_reducible exact BW.out | with_reducible refine Below.setCell ?_ ?_ _ | with_reducible refine Below.alloc ?_ ?_ _ | with_reducible refine Below.drew ?_ | (simp; done) | (simp; omega) | omega))⟩
    case round =>
      obtain ⟨rfl, hp, hbel⟩ := hrel
      have HP := Lib.hid hp; clear hp
      have BW := Lib.hid hbel; clear hbel
      go_wp2_with fail
      refine (HOK.out _ (HR.out.below BW.out)).mono ?_; rintro e v1 ⟨rfl, hb⟩
      have H1 := Lib.hid (HP.out.below hb)
      have H2 := Lib.hid (BW.out.trans (hb.mono BW.out.size)); clear hb
      go_wp2
      go_ret
      exact ⟨_, _, _, rfl, rfl, H1.out.mine, H2.out⟩
  | true =>
    have hR2 : R = specF (partF xs) (rdyB xs) (mayS xs) (idsOf xs) (xs.length + 1) [] := by rw [hR, fParts, if_pos hok]
    have HRR := Lib.hid hR2; clear hR2 hR
    rw [hok] at HOK
    have hn18 := insts_len18 hok
    have hnn : n ≤ 18 := by omega
    have hwt1 : n ≤ 1048576 := by omega
    have HN := Lib.hid hn
    have HHT := Lib.hid (fun t y A2 m2 c2 cs W h1 h2 hh hh' => l8Has_any t y A2 m2 c2 cs W h1 h2 hh hh')
    have HRY := Lib.hid (fun y cs W hh hh' => l12Ready_any xs y A n c cs W hn hwt1 hok hh hh')
    have HPT := Lib.hid (fun y cs W hrd hh hh' => l12Part_any xs y A n c cs W hn hwt1 hok hrd hh hh')
    have HMY := Lib.hid (fun p t A1 m1 c1 A2 m2 c2 W h1 hw1 h2 hw2 hh hp ht => l12May_any xs p t A n c A1 m1 c1 A2 m2 c2 W hn hwt1 hok h1 hw1 h2 hw2 hh hp ht)
    have HSELF := Lib.hid (fun x hx => (part_laws hok).self x hx)
    have HPL := Lib.hid (fun x => Nat.le_trans (@partF_le xs x) hn18)
    have HC0 := Lib.hid (show leftN (idsOf xs) [] < xs.length + 1 from Nat.lt_succ_of_le (Nat.le_trans (List.length_filter_le _ _) (by unfold idsOf; rw [List.length_map]; exact Nat.le_refl _)))
    clear hn hok hn18 hwt hwt1
    go_enter Try.func17, Try.ntmps17
    go_wp2
    go_loopw [3, 4] (fun oo tt wr => ∃ (f q m2 g2 c' c2 : Nat) (A' : Option Addr) (ps : List (List IdD)) (told : List IdD), oo = .slice A' q c' ∧ tt = .slice (some ⟨g2, 0, none⟩) m2 c2 ∧ q = ps.length ∧ m2 = told.length ∧ m2 ≤ 18 * q ∧ q + f ≤ 19 ∧ ps ++ specF (partF xs) (rdyB xs) (mayS xs) (idsOf xs) f told = R ∧ leftN (idsOf xs) told < f ∧ POut wr w.heap.size (.slice A' q c') q ps g2 ∧ wr.ownsRow w.heap.size 36 2 (.slice (some ⟨g2, 0, none⟩) m2 c2) m2 (idCells told) ∧ Below w.heap.size w wr) (fun oo _ _ => 19 - (match oo with | .slice _ q _ => q | _ => 0))
    case atStart => exact ⟨xs.length + 1, 0, 0, _, _, _, _, [], [], rfl, rfl, rfl, rfl, by omega, by have := HN.out; omega, HRR.out.symm, HC0.out, HP0.out, HW2.out, (by repeat' (first | with_reducible exact Below.refl _ _ | with_reducible exact BW.out | with_reducible refine Below.setCell ?_ ?_ _ | with_reducible refine Below.alloc ?_ ?_ _ | with_reducible refine Below.drew ?_ | (simp; done) | (simp; omega) | omega))⟩
    case round =>
      obtain ⟨f, q, m2, g2, c', c2, A', ps, told, rfl, rfl, hq, hm2, hmq, hqf, hT, hcn, hpo, hto, hbel⟩ := hrel
      clear HP0 HW2 HRR HC0
      have HQ := Lib.hid hq; clear hq
      have HM := Lib.hid hm2; clear hm2
      have HT := Lib.hid hT; clear hT
      have HC := Lib.hid hcn; clear hcn
      have HP := Lib.hid hpo; clear hpo
      have HO := Lib.hid hto; clear hto
      have BW := Lib.hid hbel; clear hbel
      go_wp2_with fail
      refine (HOK.out _ (HR.out.below BW.out)).mono ?_; rintro e v1 ⟨rfl, hb⟩
      have X := Lib.hid (HP.out.below hb); clear HP
      have HP := Lib.hid X.out; clear X
      have X := Lib.hid (HO.out.keptBelowJ hb); clear HO
      have HO := Lib.hid X.out; clear X
      have X := Lib.hid (BW.out.trans (hb.mono BW.out.size)); clear BW hb
      have BW := Lib.hid X.out; clear X
      go_wp2
      go_loopw [3, 4, 5, 6] (fun oo tt bb ii ws => ∃ (b : Bool) (i q1 m3 g3 c1 c3 : Nat) (A1 : Option Addr) (ps1 : List (List IdD)) (told1 : List IdD), i ≤ n ∧ bb = .bool b ∧ ii = .int .i64 (i : Int) ∧ oo = .slice A1 q1 c1 ∧ tt = .slice (some ⟨g3, 0, none⟩) m3 c3 ∧ q1 = ps1.length ∧ m3 = told1.length ∧ m3 ≤ 18 * q1 ∧ POut ws w.heap.size (.slice A1 q1 c1) q1 ps1 g3 ∧ ws.ownsRow w.heap.size 36 2 (.slice (some ⟨g3, 0, none⟩) m3 c3) m3 (idCells told1) ∧ Below w.heap.size w ws ∧
          (b = false → ps1 = ps ∧ told1 = told ∧ q1 = q ∧ ∀ z ∈ (idsOf xs).take i, z ∉ told → rdyB xs z = true → mayS xs (partF xs z) told = false) ∧
          (b = true → ∃ x, nextF (partF xs) (rdyB xs) (mayS xs) (idsOf xs) told = some x ∧ ps1 = ps ++ [partF xs x] ∧ told1 = told ++ partF xs x ∧ q1 = q + 1)) (fun _ _ _ ii _ => n - (intOf ii).toNat)
      case atStart => exact ⟨false, 0, q, m2, g2, c', c2, A', ps, told, Nat.zero_le _, rfl, rfl, rfl, rfl, HQ.out, HM.out, hmq, HP.out, HO.out, BW.out, fun _ => ⟨rfl, rfl, rfl, by simp⟩, fun h => by cases h⟩
      case round =>
        obtain ⟨b, i, q1, m3, g3, c1, c3, A1, ps1, told1, hi, rfl, rfl, rfl, rfl, hq1, hm3, hmq1, hpo1, hto1, hbel1, hbf, hbt⟩ := hrel
        clear HP HO BW HOK
        have HP := Lib.hid hpo1; clear hpo1
        have HO := Lib.hid hto1; clear hto1
        have BW := Lib.hid hbel1; clear hbel1
        have HQ1 := Lib.hid hq1; clear hq1
        have HM1 := Lib.hid hm3; clear hm3
        have HBF := Lib.hid hbf; clear hbf
        have HBT := Lib.hid hbt; clear hbt
        cases b with
        | true =>
          obtain ⟨x, hx, rfl, rfl, rfl⟩ := HBT.out rfl
          have hxx := next_some hx
          obtain ⟨hxt, hxr, hxm, a0, b0, hab, _⟩ := hxx
          obtain ⟨f', rfl⟩ : ∃ f', f = f' + 1 := ⟨f - 1, by have := HC.out; omega⟩
          have hT2 := HT.out
          rw [specF, hx] at hT2
          simp only [] at hT2
          have HT2 := Lib.hid (show (ps ++ [partF xs x]) ++ specF (partF xs) (rdyB xs) (mayS xs) (idsOf xs) f' (told ++ partF xs x) = R by rw [List.append_assoc]; exact hT2); clear hT2
          have HC2 := Lib.hid (show leftN (idsOf xs) (told ++ partF xs x) < f' from by
            have h1 := leftN_add (told := told) (p := partF xs x) (show x ∈ idsOf xs by rw [hab]; simp) hxt (HSELF.out x hxr)
            have h2 := HC.out
            omega)
          clear hx hxt hxr hxm hab HBF HBT HC HT
          by_cases hlt : i < n
          all_goals (
            go_wp2
            exact ⟨⟨f', q + 1, m3, g3, c1, c3, A1, _, _, rfl, rfl, HQ1.out, HM1.out, hmq1, by omega, HT2.out, HC2.out, HP.out, HO.out, BW.out⟩, by first | (simp only []; omega) | omega⟩)
        | false =>
          obtain ⟨rfl, rfl, rfl, hall⟩ := HBF.out rfl
          have HALL := Lib.hid hall; clear hall HBF HBT
          by_cases hlt : i < n
          · have hix : i < xs.length := by have := HN.out; omega
            obtain ⟨ad, ci, rfl, _, _, hrc, hl, hc⟩ := (HR.out.below BW.out).elem InstD.width i hix HN.out
            have hyi := id_cells hrc hc
            clear hrc hl hc
            have hil : i < (idsOf xs).length := by unfold idsOf; rw [List.length_map]; exact hix
            have hget : (idsOf xs)[i] = xs[i].id := List.getElem_map InstD.id
            have htk : (idsOf xs).take (i + 1) = (idsOf xs).take i ++ [xs[i].id] := by rw [List.take_succ_eq_append_getElem hil, hget]
            have hsp : idsOf xs = (idsOf xs).take i ++ xs[i].id :: (idsOf xs).drop (i + 1) := by conv => lhs; rw [← List.take_append_drop i (idsOf xs), List.drop_eq_getElem_cons hil, hget]
            clear hget hil
            generalize xs[i].id = y at *
            have HNX := Lib.hid (show (y ∈ told1 ∨ rdyB xs y = false ∨ mayS xs (partF xs y) told1 = false) → ∀ z ∈ (idsOf xs).take (i + 1), z ∉ told1 → rdyB xs z = true → mayS xs (partF xs z) told1 = false from fun hh z hz hzt hzr => by
              rw [htk] at hz
              rcases List.mem_append.1 hz with hz | hz
              · exact HALL.out z hz hzt hzr
              · have e := List.mem_singleton.1 hz; rw [e] at hzt hzr ⊢
                rcases hh with h | h | h; (exact absurd h hzt); (rw [h] at hzr; cases hzr); (exact h))
            have HYES := Lib.hid (show y ∉ told1 → rdyB xs y = true → mayS xs (partF xs y) told1 = true → nextF (partF xs) (rdyB xs) (mayS xs) (idsOf xs) told1 = some y from fun h1 h2 h3 => by
              refine List.find?_eq_some_iff_append.2 ⟨by simp [h1, h2, h3], _, _, hsp, fun z hz => ?_⟩
              by_cases hzt : z ∈ told1
              · simp [hzt]
              · cases hzr : rdyB xs z with
                | false => simp
                | true => simp [HALL.out z hz hzt hzr])
            have HYI := Lib.hid hyi; clear hyi htk hsp HALL
            go_wp2_with (first | ((with_reducible show wpList _ _ _ ({ dst := _, op := Op.load 36 _, type := _, pos := _, after := _, guard := _ } :: _) _ _); refine wpList_load_row_g _ (by rfl) (ad.add (i * 16)) rfl [.int .i64 _, .int .i64 _] agg_Id rfl HYI.out ?_) | fail)
            refine (HHT.out told1 y (some ⟨g3, 0, none⟩) m3 c3 _ _ HM1.out (by omega) (own_rep HO.out HM1.out) (id_shut2 _ _)).mono ?_; rintro e v2 ⟨rfl, hb⟩
            have X := Lib.hid (HP.out.below hb); clear HP
            have HP := Lib.hid X.out; clear X
            have X := Lib.hid (HO.out.keptBelowJ hb); clear HO
            have HO := Lib.hid X.out; clear X
            have X := Lib.hid (BW.out.trans (Below.mono hb BW.out.size)); clear BW
            have BW := Lib.hid X.out; clear X
            have X := Lib.hid (fun f u hu => cell_below (HYI.out f u hu) hb); clear HYI
            have HYI := Lib.hid X.out; clear X
            clear hb
            rw [hasB_dec]
            cases h1 : decide (y ∈ told1) with
            | true =>
              have hm1 := of_decide_eq_true h1
              have HN2 := Lib.hid (HNX.out (.inl hm1))
              go_wp2
              exact ⟨⟨false, i + 1, _, m3, g3, c1, c3, A1, _, _, by omega, rfl, by go_num, rfl, rfl, HQ1.out, HM1.out, hmq1, HP.out, HO.out, BW.out, fun _ => ⟨rfl, rfl, rfl, HN2.out⟩, fun h => by cases h⟩, by simp only [intOf]; omega⟩
            | false =>
              have HT1 := Lib.hid (of_decide_eq_false h1); clear h1
              go_wp2_with (first | ((with_reducible show wpList _ _ _ ({ dst := _, op := Op.load 36 _, type := _, pos := _, after := _, guard := _ } :: _) _ _); refine wpList_load_row_g _ (by rfl) (ad.add (i * 16)) rfl [.int .i64 _, .int .i64 _] agg_Id rfl HYI.out ?_) | fail)
              refine (HRY.out y _ _ (HR.out.below BW.out) (id_shut2 _ _)).mono ?_; rintro e v3 ⟨rfl, hb⟩
              have X := Lib.hid (HP.out.below hb); clear HP
              have HP := Lib.hid X.out; clear X
              have X := Lib.hid (HO.out.keptBelowJ hb); clear HO
              have HO := Lib.hid X.out; clear X
              have X := Lib.hid (BW.out.trans (Below.mono hb BW.out.size)); clear BW
              have BW := Lib.hid X.out; clear X
              have X := Lib.hid (fun f u hu => cell_below (HYI.out f u hu) hb); clear HYI
              have HYI := Lib.hid X.out; clear X
              clear hb
              have hry : (comB xs y && (reachF (depsOf xs) y).all (comB xs)) = rdyB xs y := rfl
              rw [hry]
              clear hry
              cases h2 : rdyB xs y with
              | false =>
                have HN2 := Lib.hid (HNX.out (.inr (.inl h2)))
                go_wp2
                exact ⟨⟨false, i + 1, _, m3, g3, c1, c3, A1, _, _, by omega, rfl, by go_num, rfl, rfl, HQ1.out, HM1.out, hmq1, HP.out, HO.out, BW.out, fun _ => ⟨rfl, rfl, rfl, HN2.out⟩, fun h => by cases h⟩, by simp only [intOf]; omega⟩
              | true =>
                have H2 := Lib.hid h2
                go_wp2_with (first | ((with_reducible show wpList _ _ _ ({ dst := _, op := Op.load 36 _, type := _, pos := _, after := _, guard := _ } :: _) _ _); refine wpList_load_row_g _ (by rfl) (ad.add (i * 16)) rfl [.int .i64 _, .int .i64 _] agg_Id rfl HYI.out ?_) | fail)
                refine (HPT.out y _ _ H2.out (HR.out.below BW.out) (id_shut2 _ _)).mono ?_; rintro e v4 ⟨g4, m4, c4, rfl, hm4, hown4, hb⟩
                have HGB := Lib.hid (fun b (hb2 : b < (World.heap v3).size) (e : g4 = b) => by have := (hown4.lt g4 rfl).1; omega : ∀ b, b < (World.heap v3).size → g4 = b → False)
                have HSZ := Lib.hid (show ∀ b, (∃ cells F, World.ownsRow v3 w.heap.size 38 1 (.slice A1 q1 c1) q1 cells ∧ Own v3 w.heap.size (cat partC ps1) cells F ∧ b ∈ (Value.slice A1 q1 c1).ownBlock.toList ++ F) → g4 ≠ b from fun b hh e => by obtain ⟨cells, F, h1, h2, h3⟩ := hh; exact HGB.out b (mine_open_lt h1 h2 b h3) e)
                have HG3 := Lib.hid (show g4 ≠ g3 from fun e => HGB.out g3 (HO.out.lt g3 rfl).2 e)
                obtain ⟨cells0, F0, hpr, hpi, hpn, hp2⟩ := HP.out.open
                have HG5 := Lib.hid (show g4 ∉ (Value.slice A1 q1 c1).ownBlock.toList ++ F0 from fun hm => HGB.out g4 (mine_open_lt hpr hpi g4 hm) rfl)
                have HPR := Lib.hid hpr; clear hpr
                have HPI := Lib.hid hpi; clear hpi
                have HPN := Lib.hid hpn; clear hpn
                have HP2 := Lib.hid hp2; clear hp2
                have H4 := Lib.hid (ownsRow_keep (base' := w.heap.size) hown4 (w' := v4) (fun b hb2 => ⟨Nat.le_trans BW.out.size (hown4.lt b hb2).1, rfl⟩)); clear hown4
                have HM4 := Lib.hid hm4; clear hm4 HGB HSZ
                have hp18 : m4 ≤ 18 := by rw [HM4.out]; exact HPL.out y
                have X := Lib.hid (HP.out.below hb); clear HP
                have HP := Lib.hid X.out; clear X
                have X := Lib.hid (HO.out.keptBelowJ hb); clear HO
                have HO := Lib.hid X.out; clear X
                have X := Lib.hid (BW.out.trans (Below.mono hb BW.out.size)); clear BW
                have BW := Lib.hid X.out; clear X
                have X := Lib.hid (fun f u hu => cell_below (HYI.out f u hu) hb); clear HYI
                have HYI := Lib.hid X.out; clear X
                have X := Lib.hid (HPR.out.keptBelowJ hb); clear HPR
                have HPR := Lib.hid X.out; clear X
                have X := Lib.hid (HPI.out.below hb); clear HPI
                have HPI := Lib.hid X.out; clear X
                clear hb
                go_wp2_with fail
                refine (HMY.out (partF xs y) told1 (some ⟨g4, 0, none⟩) m4 c4 (some ⟨g3, 0, none⟩) m3 c3 _ HM4.out (by omega) HM1.out (by omega) (HR.out.below BW.out) (own_rep H4.out HM4.out) (own_rep HO.out HM1.out)).mono ?_; rintro e v5 ⟨rfl, hb⟩
                have X := Lib.hid (HP.out.below hb); clear HP
                have HP := Lib.hid X.out; clear X
                have X := Lib.hid (HO.out.keptBelowJ hb); clear HO
                have HO := Lib.hid X.out; clear X
                have X := Lib.hid (BW.out.trans (Below.mono hb BW.out.size)); clear BW
                have BW := Lib.hid X.out; clear X
                have X := Lib.hid (fun f u hu => cell_below (HYI.out f u hu) hb); clear HYI
                have HYI := Lib.hid X.out; clear X
                have X := Lib.hid (H4.out.keptBelowJ hb); clear H4
                have H4 := Lib.hid X.out; clear X
                have X := Lib.hid (HPR.out.keptBelowJ hb); clear HPR
                have HPR := Lib.hid X.out; clear X
                have X := Lib.hid (HPI.out.below hb); clear HPI
                have HPI := Lib.hid X.out; clear X
                clear hb
                cases h3 : mayS xs (partF xs y) told1 with
                | false =>
                  have HN2 := Lib.hid (HNX.out (.inr (.inr h3)))
                  go_wp2
                  exact ⟨⟨false, i + 1, _, m3, g3, c1, c3, A1, _, _, by omega, rfl, by go_num, rfl, rfl, HQ1.out, HM1.out, hmq1, HP.out, HO.out, BW.out, fun _ => ⟨rfl, rfl, rfl, HN2.out⟩, fun h => by cases h⟩, by simp only [intOf]; omega⟩
                | true =>
                  have HY := Lib.hid (HYES.out HT1.out H2.out h3); clear h3 h2 HYES HNX HYI HP

                  go_wp2_with (first
                    | (at_builtin; refine wpList_app E_IdS _ rfl (.tmp 50) (.tmp 52) rfl w.heap.size _ q1 cells0 rfl (HPR.out.alloc _) _ _ _ _ rfl (Reads.new (e := 38) rfl) (by intro u hu; simp at hu; subst hu; rfl) (by omega) (Nat.le_trans BW.out.size (by simp)) ?_; intro v6 w6 hown6 hg6 hat6; obtain ⟨A6, c6, rfl, _⟩ := SlR.of_own hown6; have hb5 : Below v5.heap.size v5 (World.alloc v5 (.cells #[.slice (some ⟨g4, 0, none⟩) m4 c4] 38)) := (Below.refl _ _).alloc (Nat.le_refl _) _; have P6 := Lib.hid (show POut w6 w.heap.size (.slice A6 (q1 + 1) c6) (q1 + 1) (ps1 ++ [partF xs y]) g3 from POut.add (w := World.alloc v5 (.cells #[.slice (some ⟨g4, 0, none⟩) m4 c4] 38)) HQ1.out (HPI.out.below hb5) HPN.out HP2.out (Nat.lt_of_lt_of_le (HO.out.lt g3 rfl).2 hb5.size) HM4.out (H4.out.keptBelowJ hb5) (fun b hb2 => by injection hb2 with hb2; subst hb2; exact ⟨HG5.out, HG3.out⟩) hown6 hg6 hat6); have O6 := Lib.hid (show World.ownsRow w6 w.heap.size 36 2 (.slice (some ⟨g3, 0, none⟩) m3 c3) m3 (idCells told1) from (HO.out.alloc _).kept hg6 (.inr (fun e => HP2.out (List.mem_append_left _ (by rw [show (Value.slice A1 q1 c1).ownBlock = some g3 from e.symm]; simp))))); have H6 := Lib.hid (show World.ownsRow w6 w.heap.size 36 2 (.slice (some ⟨g4, 0, none⟩) m4 c4) m4 (idCells (partF xs y)) from (H4.out.alloc _).kept hg6 (.inr (fun e => HG5.out (List.mem_append_left _ (by rw [show (Value.slice A1 q1 c1).ownBlock = some g4 from e.symm]; simp))))); have B6 := Lib.hid (show Below w.heap.size w w6 from Below.grown (BW.out.alloc BW.out.size _) hg6 (Nat.le_trans BW.out.size (by simp)) (fun k hk => (HPR.out.lt k hk).1)); clear hown6 hg6 hat6 hb5)
                    | (at_builtin; go_must (refine wpList_app E_Id _ rfl (.tmp 54) (.tmp 55) rfl w.heap.size _ m3 _ rfl O6.out _ _ _ _ rfl (Reads.of_own H6.out) (ids_one _) (by omega) B6.out.size ?_; intro v7 w7 hown7 hg7 hat7; have O7 := Lib.hid hown7; have G7 := Lib.hid hg7; have A7 := Lib.hid hat7; clear hown7 hg7 hat7))
                    | fail)
                  have hA7 : v7.ownBlock = some g3 ∨ v7.ownBlock = some (World.heap w6).size := A7.out
                  have hG7 : World.grownBy w6 w7 (some g3) := G7.out
                  obtain ⟨g7, hv7⟩ : ∃ g7, v7.ownBlock = some g7 := hA7.elim (fun h => ⟨_, h⟩) (fun h => ⟨_, h⟩)
                  obtain ⟨c7, rfl, _⟩ := own_some O7.out hv7
                  have hg7 : g7 = g3 ∨ (World.heap w6).size ≤ g7 := by rcases hA7 with h | h <;> (injection h with h; simp at h; omega)
                  have Z1 := Lib.hid (P6.out.side hG7 hg7)
                  have Z2 := Lib.hid (show World.ownsRow w7 w.heap.size 36 2 (.slice (some ⟨g7, 0, none⟩) (m3 + m4) c7) (m3 + m4) (idCells (told1 ++ partF xs y)) from by rw [idCells_app]; exact O7.out)
                  have Z3 := Lib.hid (show Below w.heap.size w w7 from Below.grown B6.out hG7 B6.out.size (fun k hk => by injection hk with hk; have := (O6.out.lt g3 rfl).1; omega))
                  have Z4 := Lib.hid (show m3 + m4 = (told1 ++ partF xs y).length from by rw [List.length_append, ← HM1.out, ← HM4.out])
                  have Z5 := Lib.hid (show q1 + 1 = (ps1 ++ [partF xs y]).length from by rw [List.length_append, ← HQ1.out]; rfl)
                  clear hA7 hG7 hv7 hg7 O7 G7 A7 P6 O6 H6 B6 HPR HPI HPN HP2 H4 HG5 HG3 HO BW
                  go_wp2
                  exact ⟨⟨true, i + 1, _, _, g7, c6, c7, A6, _, _, by omega, rfl, by go_num, rfl, rfl, Z5.out, Z4.out, by omega, Z1.out, Z2.out, Z3.out, fun h => (by cases h), fun _ => ⟨y, HY.out, rfl, rfl, rfl⟩⟩, by simp only [intOf]; omega⟩
          · have hjn : i = n := by omega
            have hall2 := HALL.out
            rw [List.take_of_length_le (by unfold idsOf; rw [List.length_map]; have := HN.out; omega)] at hall2
            have hnx : nextF (partF xs) (rdyB xs) (mayS xs) (idsOf xs) told1 = none := by
              refine List.find?_eq_none.2 fun z hz => ?_
              by_cases hzt : z ∈ told1
              · simp [hzt]
              · cases hzr : rdyB xs z with
                | false => simp
                | true => simp [hall2 z hz hzt hzr]
            obtain ⟨f', rfl⟩ : ∃ f', f = f' + 1 := ⟨f - 1, by have := HC.out; omega⟩
            have hT2 := HT.out
            rw [specF, hnx] at hT2
            simp only [List.append_nil] at hT2
            subst hT2
            subst hjn
            clear hall2 hnx HALL
            go_wp2
            go_ret
            exact ⟨_, _, _, rfl, HQ1.out, HP.out.mine, BW.out⟩

end Go.Proofs.Ytoffelfcmfpooaa
namespace Go.Proofs
open Go.Shelf
def Try.layDel_ren : Go.Shelf.Ren := ⟨fun | 45 => 61 | n => n, fun | 22 => 47 | 23 => 38 | 3 => 3 | 4 => 4 | 0 => 0 | n => n, fun | n => n⟩
theorem Try.layDel : Go.Proofs.SlLaysE.n45 Try.prog Try.layDel_ren := {
  mixed := by kernel_rfl
  f45 := ⟨Try.f61.name, by decide, Try.func61.trans (congrArg some (by kernel_rfl))⟩
  t0 := Try.underlying0
  a0 := Try.isAgg0
  z0 := Try.sizeOf0
  v0 := Try.zeroValue0
  t3 := Try.underlying3
  a3 := Try.isAgg3
  z3 := Try.sizeOf3
  v3 := Try.zeroValue3
  t4 := Try.underlying4
  a4 := Try.isAgg4
  z4 := Try.sizeOf4
  v4 := Try.zeroValue4
  t22 := Try.underlying47
  a22 := Try.isAgg47
  z22 := Try.sizeOf47
  v22 := Try.zeroValue47
  a23 := Try.isAgg38
  z23 := Try.sizeOf38 }
end Go.Proofs
namespace Go.Proofs.Ytoffelfcmfpooaa
open Go.RowKit Go.Shelf Go.Lib Go.Sort

structure OneV where
  v : Value
  h : v.oneCell' = true
instance : Inhabited OneV := ⟨⟨.slice none 0 0, rfl⟩⟩
def ones : (cells : List Value) → (∀ u ∈ cells, u.oneCell' = true) → List OneV
  | [], _ => []
  | v :: r, h => ⟨v, h v (by simp)⟩ :: ones r (fun u hu => h u (by simp [hu]))
theorem ones_map : ∀ (cells : List Value) (h : ∀ u ∈ cells, u.oneCell' = true), (ones cells h).map OneV.v = cells
  | [], _ => rfl
  | v :: r, h => by rw [ones, List.map_cons, ones_map r]
set_option maxRecDepth 100000 in
theorem del_parts (base g n c k : Nat) (cells : List Value) (w : World) (h1 : ∀ u ∈ cells, u.oneCell' = true) (h : w.ownsRow base 38 1 (.slice (some ⟨g, 0, none⟩) n c) n cells) (hk : k < n) :
    Calls Try.prog 61 #[.slice (some ⟨g, 0, none⟩) n c, .int .i64 (k : Int), .int .i64 ((k : Int) + 1)] w fun e w' =>
      e = .returned (.slice (some ⟨g, 0, none⟩) (n - 1) c) ∧ w'.ownsRow base 38 1 (.slice (some ⟨g, 0, none⟩) (n - 1) c) (n - 1) (cells.eraseIdx k) ∧ w.grownBy w' (some g) := by
  have hlen : cells.length = n := by have := h.1; omega
  obtain ⟨hnc, hcm⟩ : n ≤ c ∧ c ≤ maxLen := by
    rcases h.2 with ⟨h0, _⟩ | ⟨g', cap, cur, hv, hb, hh, hnc, hcm, hs, ht⟩
    · cases h0
    · injection hv with _ _ e3; subst e3; exact ⟨hnc, hcm⟩
  have hdl : (ones cells h1).length = n := by have := congrArg List.length (ones_map cells h1); simp at this; omega
  have hget : ∀ j, j < n → cells[j]? = some ((ones cells h1).toArray[j]!).v := fun j hj => by
    have e : cells[j]? = ((ones cells h1).map OneV.v)[j]? := by rw [ones_map]
    rw [e, List.getElem?_map, List.getElem?_eq_getElem (by omega), getElem!_pos _ j (by simp; omega)]
    simp
  have hH : Holds OneV.v w g 0 (ones cells h1).toArray := fun j hj => by
    have hjn : j < n := by simp at hj; omega
    have hc := h.cells rfl j _ (hget j hjn)
    rw [add_plain, Nat.zero_add] at hc
    rw [Nat.zero_add]
    exact ⟨hc, h.frozenAt j⟩
  have hinfo : ∃ i0 : TypeInfo, Try.prog.info? 38 = some i0 ∧ i0.size = 1 := by
    have hi := E_IdS.hi
    cases hh : Try.prog.info? 38 with
    | none => rw [hh] at hi; cases hi
    | some i0 =>
      rw [hh] at hi
      simp only [Option.map_some, Option.some.injEq, Prod.mk.injEq] at hi
      exact ⟨i0, rfl, hi.2.1⟩
  obtain ⟨i0, hi0, hz1⟩ := hinfo
  have hd := AnyE.slices_Delete Try.layDel OneV.v (fun x => x.h) ⟨.slice none 0 0, rfl⟩ (fun w => Try.zeroValue38 w) i0 hi0 hz1 g 0 c k (k + 1) (ones cells h1).toArray w hH (by simp; omega) (by simp only [maxLen] at hcm; omega) (by omega) (by simp; omega)
  simp only [List.size_toArray, hdl] at hd
  refine hd.mono ?_
  rintro e w' ⟨rfl, q, rfl⟩
  have hn1 : n - (k + 1 - k) = n - 1 := by omega
  rw [hn1]
  generalize hD : (List.take k (ones cells h1) ++ List.drop (k + 1) (ones cells h1) ++ List.replicate (k + 1 - k) (⟨.slice none 0 0, rfl⟩ : OneV)) = D
  have hDl : D.length = n := by rw [← hD]; simp; omega
  refine ⟨rfl, ?_, ⟨rfl, rfl, rfl, ?_, fun b hb hne => ?_⟩⟩
  · rcases h.2 with ⟨h0, _⟩ | ⟨g', cap, cur, hv, hb, hh, hnc2, hcm2, hs, ht⟩
    · cases h0
    · injection hv with e1 _ e3
      injection e1 with e1
      injection e1 with e1
      subst e1 e3
      refine ⟨by rw [List.length_eraseIdx, if_pos (by omega)]; omega, .inr ⟨g, c, putCells OneV.v 0 D.toArray cur, rfl, hb, ?_, by omega, hcm2, by simp [putCells, hs], ?_⟩⟩
      · show ((w.heap.modify g (onCells (putCells OneV.v 0 D.toArray))))[g]? = _
        rw [Array.getElem?_modify, if_pos rfl, hh]
        rfl
      · apply List.ext_getElem?
        intro j
        by_cases hj : j < n - 1
        · rw [List.getElem?_take_of_lt (by omega)]
          have hjc : j < cur.size := by omega
          simp only [putCells, Array.getElem?_toList, Array.getElem?_mapIdx, Array.getElem?_eq_getElem hjc, Option.map_some]
          rw [if_pos (by simp; omega)]
          have e1 : D[j]? = ((ones cells h1).eraseIdx k)[j]? := by
            rw [← hD, List.eraseIdx_eq_take_drop_succ, List.getElem?_append_left (by simp; omega)]
          have hj2 : j < ((ones cells h1).eraseIdx k).length := by rw [List.length_eraseIdx, if_pos (by omega)]; omega
          have e2 : cells.eraseIdx k = ((ones cells h1).eraseIdx k).map OneV.v := by rw [List.eraseIdx_eq_take_drop_succ, List.eraseIdx_eq_take_drop_succ, List.map_append, List.map_take, List.map_drop, ones_map]
          rw [e2, List.getElem?_map, List.getElem?_eq_getElem hj2]
          rw [List.getElem?_eq_getElem hj2, List.getElem?_eq_getElem (by omega)] at e1
          injection e1 with e1
          rw [getElem!_pos _ _ (by simp; omega)]
          simp [← e1]
        · rw [List.getElem?_eq_none (by simp; omega), List.getElem?_eq_none (by rw [List.length_eraseIdx, if_pos (by omega)]; omega)]
  · show w.heap.size ≤ (w.heap.modify g _).size
    rw [Array.size_modify]; exact Nat.le_refl _
  · show (w.heap.modify g _)[b]? = _
    rw [Array.getElem?_modify, if_neg (fun e => hne (congrArg some e.symm))]
theorem addr_add0 (a : Addr) : a.add 0 = a := by
  obtain ⟨b, o, v⟩ := a
  unfold Addr.add
  split <;> simp_all
set_option maxRecDepth 100000 in
set_option maxHeartbeats 2000000 in
theorem indexP1_any (ps : List (List IdD)) (pred : List IdD → Bool) (A : Option Addr) (n c : Nat) (cap : Nat) (w : World) (hn : n = ps.length) (hwt : n ≤ 1048576) (h : Rep anyB w (.sl 38 1 n (cat partC ps) .nil) [.slice A n c])
    (hf : ∀ (W : World), RowKit.Below w.heap.size w W → ∀ i (hi : i < ps.length), ∀ A1 m1 c1, m1 = (ps[i]).length → Rep anyB W (.sl 36 2 m1 (cat IdD.c ps[i]) .nil) [.slice A1 m1 c1] → Calls Try.prog 54 #[.slice A1 m1 c1, .pointer (some ⟨cap, 0, none⟩)] W fun e w' => e = .returned (.bool (pred ps[i])) ∧ RowKit.Below W.heap.size W w') :
    Calls Try.prog 58 #[.slice A n c, .func (.func 54) #[] #[.pointer (some ⟨cap, 0, none⟩)]] w fun e w' => e = .returned (.int .i64 (match ps.findIdx? pred with | some k => (k : Int) | none => -1)) ∧ RowKit.Below w.heap.size w w' := by
  have HN := Lib.hid hn; clear hn
  have HR := Lib.hid h; clear h
  have HF := Lib.hid hf; clear hf
  obtain ⟨R, hR⟩ : ∃ R : Int, R = (match ps.findIdx? pred with | some k => (k : Int) | none => -1) := ⟨_, rfl⟩
  rw [← hR]
  have HRR := Lib.hid hR; clear hR
  go_enter Try.func58, Try.ntmps58
  go_wp2
  go_loopw [8] (fun ii wr => ∃ j : Nat, j ≤ n ∧ ii = .int .i64 (j : Int) ∧ (∀ i (hi : i < ps.length), i < j → pred ps[i] = false) ∧ RowKit.Below w.heap.size w wr) (fun ii _ => n - (intOf ii).toNat)
  case atStart => exact ⟨0, Nat.zero_le _, rfl, fun i hi h => absurd h (Nat.not_lt_zero _), RowKit.Below.refl _ _⟩
  case round =>
    obtain ⟨j, hj, rfl, hall, hbel⟩ := hrel
    have HA := Lib.hid hall; clear hall
    have BW := Lib.hid hbel; clear hbel
    by_cases hlt : j < n
    · have hjx : j < ps.length := by have := HN.out; omega
      obtain ⟨ad, ci, rfl, _, _, hrc, hl, hc⟩ := (HR.out.below BW.out).elem partC_width j hjx HN.out
      obtain ⟨A1, c1, c2, rfl, hrp, hnil⟩ := Rep.sl.1 (show Rep anyB wr (.sl 36 2 (ps[j]).length (cat IdD.c ps[j]) .nil) ci from hrc)
      obtain rfl := Rep.nil.1 hnil
      have hcell : wr.cell? (ad.add (j * 1)) = some (.slice A1 (ps[j]).length c1) := by have := hc 0 _ rfl; rwa [addr_add0] at this
      rw [Nat.mul_one] at hcell
      obtain ⟨m1, hm1⟩ : ∃ m1, m1 = (ps[j]).length := ⟨_, rfl⟩
      rw [← hm1] at hcell hrp
      have HM1 := Lib.hid hm1; clear hm1
      have HRP := Lib.hid hrp; clear hrp hc hrc hl hnil
      go_wp2_with fail
      refine (HF.out _ BW.out j hjx A1 m1 c1 HM1.out HRP.out).mono ?_; rintro e v1 ⟨rfl, hb⟩
      have X := Lib.hid (BW.out.trans (hb.mono BW.out.size)); clear BW hb
      have BW := Lib.hid X.out; clear X
      clear hcell
      cases hd : pred ps[j] with
      | true =>
        have hRj : R = (j : Int) := by
          rw [HRR.out, List.findIdx?_eq_some_iff_getElem.2 ⟨hjx, hd, fun i hi => by simp [HA.out i (by omega) hi]⟩]
        have HRJ := Lib.hid hRj; clear hRj hd
        go_wp2
        go_ret
        exact ⟨ret_eq (by rw [HRJ.out]; rfl), BW.out⟩
      | false =>
        have HS := Lib.hid (show ∀ i (hi : i < ps.length), i < j + 1 → pred ps[i] = false from fun i hi hij => by
          by_cases he : i = j
          · subst he; exact hd
          · exact HA.out i hi (by omega)); clear hd
        go_wp2
        exact ⟨⟨j + 1, by omega, by go_num, HS.out, BW.out⟩, by simp only [intOf]; omega⟩
    · have hjn : j = n := by omega
      subst hjn
      have hRj : R = -1 := by
        rw [HRR.out]
        have : ps.findIdx? pred = none := List.findIdx?_eq_none_iff.2 fun p hp => by
          obtain ⟨i, hi, rfl⟩ := List.getElem_of_mem hp
          exact HA.out i hi (by have := HN.out; omega)
        rw [this]
      have HRJ := Lib.hid hRj; clear hRj
      go_wp2
      go_ret
      exact ⟨ret_eq (by rw [HRJ.out]; rfl), BW.out⟩
set_option maxRecDepth 100000 in
set_option maxHeartbeats 2000000 in
theorem indexP2_any (ps : List (List IdD)) (pred : List IdD → Bool) (A : Option Addr) (n c : Nat) (cap : Nat × Nat) (w : World) (hn : n = ps.length) (hwt : n ≤ 1048576) (h : Rep anyB w (.sl 38 1 n (cat partC ps) .nil) [.slice A n c])
    (hf : ∀ (W : World), RowKit.Below w.heap.size w W → ∀ i (hi : i < ps.length), ∀ A1 m1 c1, m1 = (ps[i]).length → Rep anyB W (.sl 36 2 m1 (cat IdD.c ps[i]) .nil) [.slice A1 m1 c1] → Calls Try.prog 59 #[.slice A1 m1 c1, .pointer (some ⟨cap.1, 0, none⟩), .pointer (some ⟨cap.2, 0, none⟩)] W fun e w' => e = .returned (.bool (pred ps[i])) ∧ RowKit.Below W.heap.size W w') :
    Calls Try.prog 58 #[.slice A n c, .func (.func 59) #[] #[.pointer (some ⟨cap.1, 0, none⟩), .pointer (some ⟨cap.2, 0, none⟩)]] w fun e w' => e = .returned (.int .i64 (match ps.findIdx? pred with | some k => (k : Int) | none => -1)) ∧ RowKit.Below w.heap.size w w' := by
  have HN := Lib.hid hn; clear hn
  have HR := Lib.hid h; clear h
  have HF := Lib.hid hf; clear hf
  obtain ⟨R, hR⟩ : ∃ R : Int, R = (match ps.findIdx? pred with | some k => (k : Int) | none => -1) := ⟨_, rfl⟩
  rw [← hR]
  have HRR := Lib.hid hR; clear hR
  go_enter Try.func58, Try.ntmps58
  go_wp2
  go_loopw [8] (fun ii wr => ∃ j : Nat, j ≤ n ∧ ii = .int .i64 (j : Int) ∧ (∀ i (hi : i < ps.length), i < j → pred ps[i] = false) ∧ RowKit.Below w.heap.size w wr) (fun ii _ => n - (intOf ii).toNat)
  case atStart => exact ⟨0, Nat.zero_le _, rfl, fun i hi h => absurd h (Nat.not_lt_zero _), RowKit.Below.refl _ _⟩
  case round =>
    obtain ⟨j, hj, rfl, hall, hbel⟩ := hrel
    have HA := Lib.hid hall; clear hall
    have BW := Lib.hid hbel; clear hbel
    by_cases hlt : j < n
    · have hjx : j < ps.length := by have := HN.out; omega
      obtain ⟨ad, ci, rfl, _, _, hrc, hl, hc⟩ := (HR.out.below BW.out).elem partC_width j hjx HN.out
      obtain ⟨A1, c1, c2, rfl, hrp, hnil⟩ := Rep.sl.1 (show Rep anyB wr (.sl 36 2 (ps[j]).length (cat IdD.c ps[j]) .nil) ci from hrc)
      obtain rfl := Rep.nil.1 hnil
      have hcell : wr.cell? (ad.add (j * 1)) = some (.slice A1 (ps[j]).length c1) := by have := hc 0 _ rfl; rwa [addr_add0] at this
      rw [Nat.mul_one] at hcell
      obtain ⟨m1, hm1⟩ : ∃ m1, m1 = (ps[j]).length := ⟨_, rfl⟩
      rw [← hm1] at hcell hrp
      have HM1 := Lib.hid hm1; clear hm1
      have HRP := Lib.hid hrp; clear hrp hc hrc hl hnil
      go_wp2_with fail
      refine (HF.out _ BW.out j hjx A1 m1 c1 HM1.out HRP.out).mono ?_; rintro e v1 ⟨rfl, hb⟩
      have X := Lib.hid (BW.out.trans (hb.mono BW.out.size)); clear BW hb
      have BW := Lib.hid X.out; clear X
      clear hcell
      cases hd : pred ps[j] with
      | true =>
        have hRj : R = (j : Int) := by
          rw [HRR.out, List.findIdx?_eq_some_iff_getElem.2 ⟨hjx, hd, fun i hi => by simp [HA.out i (by omega) hi]⟩]
        have HRJ := Lib.hid hRj; clear hRj hd
        go_wp2
        go_ret
        exact ⟨ret_eq (by rw [HRJ.out]; rfl), BW.out⟩
      | false =>
        have HS := Lib.hid (show ∀ i (hi : i < ps.length), i < j + 1 → pred ps[i] = false from fun i hi hij => by
          by_cases he : i = j
          · subst he; exact hd
          · exact HA.out i hi (by omega)); clear hd
        go_wp2
        exact ⟨⟨j + 1, by omega, by go_num, HS.out, BW.out⟩, by simp only [intOf]; omega⟩
    · have hjn : j = n := by omega
      subst hjn
      have hRj : R = -1 := by
        rw [HRR.out]
        have : ps.findIdx? pred = none := List.findIdx?_eq_none_iff.2 fun p hp => by
          obtain ⟨i, hi, rfl⟩ := List.getElem_of_mem hp
          exact HA.out i hi (by have := HN.out; omega)
        rw [this]
      have HRJ := Lib.hid hRj; clear hRj
      go_wp2
      go_ret
      exact ⟨ret_eq (by rw [HRJ.out]; rfl), BW.out⟩

end Go.Proofs.Ytoffelfcmfpooaa
namespace Go.Proofs.Ytoffelfcmfpooaa
open Go.RowKit

theorem any_findIdx {α : Type} (p : α → Bool) : ∀ l : List α, l.any p = (l.findIdx? p).isSome
  | [] => rfl
  | x :: l => by
    rw [List.any_cons, List.findIdx?_cons, any_findIdx p l]
    cases p x <;> simp
set_option maxRecDepth 100000 in
set_option maxHeartbeats 2000000 in
theorem partsFn1_any (p : List IdD) (y : IdD) (A1 : Option Addr) (m1 c1 gx : Nat) (w : World) (hm : m1 = p.length) (hm1 : m1 ≤ 1048576) (hy : ∀ f u, [Value.int .i64 y.rep, .int .i64 y.slot][f]? = some u → w.cell? ((⟨gx, 0, none⟩ : Addr).add f) = some u) (h : Rep anyB w (.sl 36 2 m1 (cat IdD.c p) .nil) [.slice A1 m1 c1]) :
    Calls Try.prog 54 #[.slice A1 m1 c1, .pointer (some ⟨gx, 0, none⟩)] w fun e w' => e = .returned (.bool (decide (y ∈ p))) ∧ Below w.heap.size w w' := by
  have HC := Lib.hid (fun W h => containsId_any p y A1 m1 c1 _ W hm hm1 h (id_shut2 y W))
  have HY := Lib.hid hy; clear hy
  have HR := Lib.hid h; clear h hm
  rw [hasB_dec] at HC
  go_enter Try.func54, Try.ntmps54
  go_wp2_with (first | ((with_reducible show wpList _ _ _ ({ dst := _, op := Op.load 36 _, type := _, pos := _, after := _, guard := _ } :: _) _ _); refine wpList_load_row _ ⟨gx, 0, none⟩ rfl [.int .i64 y.rep, .int .i64 y.slot] agg_Id rfl HY.out ?_) | fail)
  refine (HC.out _ HR.out).mono ?_; rintro e v1 ⟨rfl, hb⟩
  have HB := Lib.hid hb; clear hb
  go_wp2
  go_ret
  exact ⟨rfl, HB.out⟩
set_option maxRecDepth 100000 in
set_option maxHeartbeats 2000000 in
theorem partsFn2_any (xs : List InstD) (p t : List IdD) (A : Option Addr) (n k : Nat) (A1 : Option Addr) (m1 c1 : Nat) (A2 : Option Addr) (m2 c2 gl g8 : Nat) (w : World) (hn : n = xs.length) (hwt : n + (cat InstD.c xs).wt ≤ 1048576) (hok : instsOkB xs = true)
    (h1 : m1 = p.length) (hw1 : m1 ≤ 1048576) (h2 : m2 = t.length) (hw2 : m2 ≤ 1048576) (hl : Blk w gl 33 [.slice A n k].toArray) (h8 : Blk w g8 38 [.slice A2 m2 c2].toArray)
    (h : Rep anyB w (.sl 40 16 n (cat InstD.c xs) .nil) [.slice A n k]) (hp : Rep anyB w (.sl 36 2 m1 (cat IdD.c p) .nil) [.slice A1 m1 c1]) (ht : Rep anyB w (.sl 36 2 m2 (cat IdD.c t) .nil) [.slice A2 m2 c2]) :
    Calls Try.prog 59 #[.slice A1 m1 c1, .pointer (some ⟨gl, 0, none⟩), .pointer (some ⟨g8, 0, none⟩)] w fun e w' => e = .returned (.bool (mayI xs p t)) ∧ Below w.heap.size w w' := by
  have HC := Lib.hid (fun W a b c => iFree_any xs p t A n k A1 m1 c1 A2 m2 c2 W hn hwt hok h1 hw1 h2 hw2 a b c)
  have hb0 := blk_cell0 hl 0 rfl
  have hb1 := blk_cell0 h8 0 rfl
  have HR := Lib.hid h; clear h
  have HP := Lib.hid hp; clear hp
  have HT := Lib.hid ht; clear ht
  clear hn hwt h1 h2 hl h8
  go_enter Try.func59, Try.ntmps59
  go_wp2_with fail
  refine (HC.out _ HR.out HP.out HT.out).mono ?_; rintro e v1 ⟨rfl, hb⟩
  have HB := Lib.hid hb; clear hb
  clear hb0 hb1
  go_wp2
  go_ret
  exact ⟨rfl, HB.out⟩
set_option maxRecDepth 100000 in
set_option maxHeartbeats 2000000 in
theorem containsP_any (ps : List (List IdD)) (y : IdD) (A : Option Addr) (n c gx : Nat) (w : World) (hn : n = ps.length) (hwt : n ≤ 1048576) (hps : ∀ p ∈ ps, p.length ≤ 1048576) (hy : ∀ f u, [Value.int .i64 y.rep, .int .i64 y.slot][f]? = some u → w.cell? ((⟨gx, 0, none⟩ : Addr).add f) = some u) (h : Rep anyB w (.sl 38 1 n (cat partC ps) .nil) [.slice A n c]) :
    Calls Try.prog 53 #[.slice A n c, .func (.func 54) #[] #[.pointer (some ⟨gx, 0, none⟩)]] w fun e w' => e = .returned (.bool (ps.any fun p => decide (y ∈ p))) ∧ Below w.heap.size w w' := by
  have HI := Lib.hid (fun W (hW : Below w.heap.size w W) => indexP1_any ps (fun p => decide (y ∈ p)) A n c gx W hn hwt (h.below hW) (fun V hV i hi A1 m1 c1 hm hr => partsFn1_any ps[i] y A1 m1 c1 gx V hm (by rw [hm]; exact hps _ (List.getElem_mem hi)) (fun f u hu => cell_below (cell_below (hy f u hu) hW) hV) hr))
  have hany := any_findIdx (fun p => decide (y ∈ p)) ps
  generalize (ps.any fun p => decide (y ∈ p)) = R at *
  generalize ps.findIdx? (fun p => decide (y ∈ p)) = K at *
  clear hn h hps hy
  have HA := Lib.hid hany; clear hany
  go_enter Try.func53, Try.ntmps53
  go_wp2_with fail
  refine (HI.out _ (Below.refl _ _)).mono ?_; rintro e v1 ⟨rfl, hb⟩
  have HB := Lib.hid hb; clear hb
  cases K with
  | none =>
    have HA2 := Lib.hid (show R = false from HA.out); clear HA
    simp only []
    go_wp2
    go_ret
    exact ⟨ret_eq (by rw [HA2.out]; rfl), HB.out⟩
  | some k =>
    have HA2 := Lib.hid (show R = true from HA.out); clear HA
    simp only []
    have d1 : decide ((0 : Int) ≤ (k : Int)) = true := by simp
    go_wp2
    go_ret
    exact ⟨ret_eq (by rw [HA2.out]; rfl), HB.out⟩
/-- one slice value each: the rows may be taken in another order -/
theorem own_permP {w : World} {base : Nat} {d d' : List (List IdD × Value)} (hp : d.Perm d') : ∀ {F : List Nat}, Own w base (cat partC (d.map Prod.fst)) (d.map Prod.snd) F → ∃ F', F'.Perm F ∧ Own w base (cat partC (d'.map Prod.fst)) (d'.map Prod.snd) F' := by
  have one : ∀ {p : List IdD} {v : Value} {c2 rest : List Value} {F : List Nat}, Own w base (partC p) (c2) F → c2 ++ rest = v :: rest → True := fun _ _ => trivial
  induction hp with
  | nil => intro F h; exact ⟨F, .refl _, h⟩
  | cons a _ ih =>
    intro F h
    rw [List.map_cons, List.map_cons, cat_cons] at h
    obtain ⟨c1, c2, F1, F2, hc, rfl, h1, h2⟩ := Own.app.1 h
    have hl : c1.length = 1 := h1.length.trans (partC_width _)
    obtain ⟨rfl, rfl⟩ := List.append_inj (s₁ := [a.2]) hc (by rw [hl]; rfl)
    obtain ⟨F', p, h'⟩ := ih h2
    refine ⟨F1 ++ F', p.append_left _, ?_⟩
    rw [List.map_cons, List.map_cons, cat_cons]
    exact Own.app.2 ⟨[a.2], _, _, _, rfl, rfl, h1, h'⟩
  | swap a b l =>
    intro F h
    rw [List.map_cons, List.map_cons, List.map_cons, List.map_cons, cat_cons, cat_cons] at h
    obtain ⟨c1, c2, F1, F2, hc, rfl, h1, h2⟩ := Own.app.1 h
    have hl : c1.length = 1 := h1.length.trans (partC_width _)
    obtain ⟨rfl, rfl⟩ := List.append_inj (s₁ := [b.2]) hc (by rw [hl]; rfl)
    obtain ⟨c3, c4, F3, F4, hc, rfl, h3, h4⟩ := Own.app.1 h2
    have hl : c3.length = 1 := h3.length.trans (partC_width _)
    obtain ⟨rfl, rfl⟩ := List.append_inj (s₁ := [a.2]) hc (by rw [hl]; rfl)
    refine ⟨F3 ++ (F1 ++ F4), ?_, ?_⟩
    · rw [← List.append_assoc, ← List.append_assoc]
      exact List.perm_append_comm.append_right _
    · rw [List.map_cons, List.map_cons, List.map_cons, List.map_cons, cat_cons, cat_cons]
      exact Own.app.2 ⟨[a.2], _, _, _, rfl, rfl, h3, Own.app.2 ⟨[b.2], _, _, _, rfl, rfl, h1, h4⟩⟩
  | trans _ _ ih1 ih2 =>
    intro F h
    obtain ⟨F', p1, h1⟩ := ih1 h
    obtain ⟨F'', p2, h2⟩ := ih2 h1
    exact ⟨F'', p2.trans p1, h2⟩
/-- how the second loop stands -/
structure PSt (w0 : World) (D0 : List (List IdD × Value)) (F0 : List Nat) (A : Option Addr) (n c gl g8 : Nat) (dO dL : List (List IdD × Value)) (told : List IdD) (gL nL cL gO nO cO g3 m3 c3 : Nat) (w : World) : Prop where
  bel : Below w0.heap.size w0 w
  lb : Blk w gl 33 [.slice A n c].toArray
  bb : Blk w g8 38 [.slice (some ⟨g3, 0, none⟩) m3 c3].toArray
  own : Own w w0.heap.size (cat partC (D0.map Prod.fst)) (D0.map Prod.snd) F0
  left : w.ownsRow (w0.heap.size + 1) 38 1 (.slice (some ⟨gL, 0, none⟩) nL cL) nL (dL.map Prod.snd)
  out : w.ownsRow (w0.heap.size + 1) 38 1 (.slice (some ⟨gO, 0, none⟩) nO cO) nO (dO.map Prod.snd)
  tl : w.ownsRow (w0.heap.size + 1) 36 2 (.slice (some ⟨g3, 0, none⟩) m3 c3) m3 (idCells told)
  f1 : gL ∉ F0 ∧ gO ∉ F0 ∧ g3 ∉ F0 ∧ g8 ∉ F0 ∧ gl ∉ F0
  d1 : gL ≠ gO ∧ gL ≠ g3 ∧ gL ≠ g8 ∧ gO ≠ g3 ∧ gO ≠ g8 ∧ g3 ≠ g8
  d2 : gl ≠ gL ∧ gl ≠ gO ∧ gl ≠ g3 ∧ gl ≠ g8
  b8 : w0.heap.size ≤ g8
section
variable {w0 w w' : World} {D0 : List (List IdD × Value)} {F0 : List Nat} {A : Option Addr} {n c gl g8 : Nat} {dO dL : List (List IdD × Value)} {told : List IdD} {gL nL cL gO nO cO g3 m3 c3 : Nat}
theorem PSt.below (h : PSt w0 D0 F0 A n c gl g8 dO dL told gL nL cL gO nO cO g3 m3 c3 w) (hb : Below w.heap.size w w') : PSt w0 D0 F0 A n c gl g8 dO dL told gL nL cL gO nO cO g3 m3 c3 w' :=
  ⟨h.bel.trans (hb.mono h.bel.size), h.lb.below hb, h.bb.below hb, h.own.below hb, h.left.keptBelowJ hb, h.out.keptBelowJ hb, h.tl.keptBelowJ hb, h.f1, h.d1, h.d2, h.b8⟩
theorem own_block_of {w w' : World} {base e sz n c g : Nat} {xs : List Value} (h : w.ownsRow base e sz (.slice (some ⟨g, 0, none⟩) n c) n xs) (hk : w'.heap[g]? = w.heap[g]?) : w'.ownsRow base e sz (.slice (some ⟨g, 0, none⟩) n c) n xs :=
  ownsRow_keep h (fun b hb => by injection hb with hb; subst hb; exact ⟨(h.lt _ rfl).1, hk⟩)
/-- a component is put out -/
theorem PSt.addOut (h : PSt w0 D0 F0 A n c gl g8 dO dL told gL nL cL gO nO cO g3 m3 c3 w) {x : List IdD × Value} {gO' cO' : Nat} (hg : w.grownBy w' (some gO)) (hat : gO' = gO ∨ w.heap.size ≤ gO')
    (ho : w'.ownsRow (w0.heap.size + 1) 38 1 (.slice (some ⟨gO', 0, none⟩) (nO + 1) cO') (nO + 1) ((dO ++ [x]).map Prod.snd)) : PSt w0 D0 F0 A n c gl g8 (dO ++ [x]) dL told gL nL cL gO' (nO + 1) cO' g3 m3 c3 w' := by
  obtain ⟨f1, f2, f3, f4, f5⟩ := h.f1
  obtain ⟨d1, d2, d3, d4, d5, d6⟩ := h.d1
  obtain ⟨e1, e2, e3, e4⟩ := h.d2
  have k : ∀ b, b < w.heap.size → b ≠ gO → w'.heap[b]? = w.heap[b]? := fun b hb hne => hg.block b hb (fun e => hne (by injection e))
  have lL := (h.left.lt gL rfl).2
  have l3 := (h.tl.lt g3 rfl).2
  have l8 := h.bb.lt
  have ll := h.lb.lt
  have hfr : ∀ b, b < w.heap.size → b ≠ gO → b ≠ gO' := fun b hb hne => by rcases hat with e | e <;> omega
  refine ⟨Below.grown h.bel hg h.bel.size (fun k hk => by injection hk with hk; have := (h.out.lt gO rfl).1; omega), h.lb.keep (k _ ll e2), h.bb.keep (k _ l8 (fun e => d5 e.symm)), h.own.keep (fun b hb => k b (h.own.in b hb).2 (fun e => f2 (e ▸ hb))), own_block_of h.left (k _ lL d1), ho, own_block_of h.tl (k _ l3 (fun e => d4 e.symm)), ⟨f1, ?_, f3, f4, f5⟩, ⟨hfr _ lL d1, d2, d3, fun e => hfr _ l3 (fun e => d4 e.symm) e.symm, fun e => hfr _ l8 (fun e => d5 e.symm) e.symm, d6⟩, ⟨e1, hfr _ ll e2, e3, e4⟩, h.b8⟩
  rcases hat with e | e
  · rw [e]; exact f2
  · exact fun hm => by have := (h.own.in _ hm).2; omega
/-- its Ids are told, the box holds the new row -/
theorem PSt.addTold {w1 : World} (h : PSt w0 D0 F0 A n c gl g8 dO dL told gL nL cL gO nO cO g3 m3 c3 w) {p : List IdD} {g3' m3' c3' : Nat} (hg : w.grownBy w1 (some g3)) (hat : g3' = g3 ∨ w.heap.size ≤ g3')
    (ho : w1.ownsRow (w0.heap.size + 1) 36 2 (.slice (some ⟨g3', 0, none⟩) m3' c3') m3' (idCells (told ++ p))) : PSt w0 D0 F0 A n c gl g8 dO dL (told ++ p) gL nL cL gO nO cO g3' m3' c3' (w1.setCell ⟨g8, 0, none⟩ (.slice (some ⟨g3', 0, none⟩) m3' c3')) := by
  obtain ⟨f1, f2, f3, f4, f5⟩ := h.f1
  obtain ⟨d1, d2, d3, d4, d5, d6⟩ := h.d1
  obtain ⟨e1, e2, e3, e4⟩ := h.d2
  have lL := (h.left.lt gL rfl).2
  have lO := (h.out.lt gO rfl).2
  have l8 := h.bb.lt
  have ll := h.lb.lt
  have k : ∀ b, b < w.heap.size → b ≠ g3 → w1.heap[b]? = w.heap[b]? := fun b hb hne => hg.block b hb (fun e => hne (by injection e))
  have k2 : ∀ b, b ≠ g8 → (w1.setCell ⟨g8, 0, none⟩ (.slice (some ⟨g3', 0, none⟩) m3' c3')).heap[b]? = w1.heap[b]? := fun b hne => Below.heap_setCell _ _ _ _ (fun e => hne e)
  have hfr : ∀ b, b < w.heap.size → b ≠ g3 → b ≠ g3' := fun b hb hne => by rcases hat with e | e <;> omega
  have hbw : Below w0.heap.size w0 w1 := Below.grown h.bel hg h.bel.size (fun k hk => by injection hk with hk; have := (h.tl.lt g3 rfl).1; omega)
  refine ⟨Below.setCell hbw h.b8 _, (h.lb.keep (k _ ll e3)).keep (k2 _ e4), ?_, (h.own.keep (fun b hb => k b (h.own.in b hb).2 (fun e => f3 (e ▸ hb)))).keep (fun b hb => k2 b (fun e => f4 (e ▸ hb))), own_block_of (own_block_of h.left (k _ lL d2)) (k2 _ d3), own_block_of (own_block_of h.out (k _ lO d4)) (k2 _ d5), own_block_of ho (k2 _ (fun e => hfr _ l8 (fun e => d6 e.symm) e.symm)), ⟨f1, f2, ?_, f4, f5⟩, ⟨d1, hfr _ lL d2, d3, hfr _ lO d4, d5, fun e => hfr _ l8 (fun e => d6 e.symm) e.symm⟩, ⟨e1, e2, hfr _ ll e3, e4⟩, h.b8⟩
  · have := blk_put0 (L := [.slice (some ⟨g3, 0, none⟩) m3 c3]) (h.bb.keep (k _ l8 (fun e => d6 e.symm))) 0 (.slice (some ⟨g3', 0, none⟩) m3' c3')
    simpa using this
  · rcases hat with e | e
    · rw [e]; exact f3
    · exact fun hm => by have := (h.own.in _ hm).2; omega
/-- it is taken out of those that are left -/
theorem PSt.cut (h : PSt w0 D0 F0 A n c gl g8 dO dL told gL nL cL gO nO cO g3 m3 c3 w) {dL' : List (List IdD × Value)} {nL' : Nat} (hg : w.grownBy w' (some gL))
    (ho : w'.ownsRow (w0.heap.size + 1) 38 1 (.slice (some ⟨gL, 0, none⟩) nL' cL) nL' (dL'.map Prod.snd)) : PSt w0 D0 F0 A n c gl g8 dO dL' told gL nL' cL gO nO cO g3 m3 c3 w' := by
  obtain ⟨f1, f2, f3, f4, f5⟩ := h.f1
  obtain ⟨d1, d2, d3, d4, d5, d6⟩ := h.d1
  obtain ⟨e1, e2, e3, e4⟩ := h.d2
  have k : ∀ b, b < w.heap.size → b ≠ gL → w'.heap[b]? = w.heap[b]? := fun b hb hne => hg.block b hb (fun e => hne (by injection e))
  exact ⟨Below.grown h.bel hg h.bel.size (fun k hk => by injection hk with hk; have := (h.left.lt gL rfl).1; omega), h.lb.keep (k _ h.lb.lt e1), h.bb.keep (k _ h.bb.lt (fun e => d3 e.symm)), h.own.keep (fun b hb => k b (h.own.in b hb).2 (fun e => f1 (e ▸ hb))), ho, own_block_of h.out (k _ (h.out.lt gO rfl).2 (fun e => d1 e.symm)), own_block_of h.tl (k _ (h.tl.lt g3 rfl).2 (fun e => d2 e.symm)), h.f1, h.d1, h.d2, h.b8⟩
end

end Go.Proofs.Ytoffelfcmfpooaa
namespace Go.Proofs.Ytoffelfcmfpooaa
open Go.RowKit

theorem repsF_len {P : IdD → List IdD} {ready : IdD → Bool} : ∀ (r done : List IdD), (repsF P ready done r).length ≤ done.length + r.length
  | [], done => by simp [repsF]
  | x :: r, done => by
    rw [repsF]
    refine Nat.le_trans (repsF_len r _) ?_
    split
    · simp only [List.length_append, List.length_cons, List.length_nil]; omega
    · simp only [List.length_cons]; omega
theorem map_erase {α β : Type} (f : α → β) : ∀ (l : List α) (k : Nat), (l.map f).eraseIdx k = (l.eraseIdx k).map f
  | [], k => by simp
  | a :: l, 0 => rfl
  | a :: l, k + 1 => by simp only [List.map_cons, List.eraseIdx_cons_succ]; rw [map_erase f l k]
theorem own_someB {w : World} {base e sz n b b2 : Nat} {v : Value} {xs : List Value} (h : w.ownsRow base e sz v n xs) (h0 : v.ownBlock = some b ∨ v.ownBlock = some b2) : ∃ g c, v = .slice (some ⟨g, 0, none⟩) n c := by
  rcases h.2 with ⟨h1, _⟩ | ⟨g, cap, cur, hv, _⟩
  · rw [h1] at h0; rcases h0 with h0 | h0 <;> simp [Value.ownBlock] at h0
  · exact ⟨g, cap, hv⟩
theorem zip_fst : ∀ (a : List (List IdD)) (b : List Value), a.length = b.length → (a.zip b).map Prod.fst = a
  | [], [], _ => rfl
  | x :: a, y :: b, h => by simp only [List.zip_cons_cons, List.map_cons]; rw [zip_fst a b (by simpa using h)]
  | [], _ :: _, h => by simp at h
  | _ :: _, [], h => by simp at h
theorem zip_snd : ∀ (a : List (List IdD)) (b : List Value), a.length = b.length → (a.zip b).map Prod.snd = b
  | [], [], _ => rfl
  | x :: a, y :: b, h => by simp only [List.zip_cons_cons, List.map_cons]; rw [zip_snd a b (by simpa using h)]
  | [], _ :: _, h => by simp at h
  | _ :: _, [], h => by simp at h
theorem perm_move {α : Type} (dO dL : List α) (k : Nat) (hk : k < dL.length) : (dO ++ dL).Perm ((dO ++ [dL[k]]) ++ dL.eraseIdx k) := by
  rw [List.append_assoc]
  refine List.Perm.append_left dO ?_
  rw [List.eraseIdx_eq_take_drop_succ]
  have e : dL = dL.take k ++ dL[k] :: dL.drop (k + 1) := by rw [← List.drop_eq_getElem_cons hk, List.take_append_drop]
  conv => lhs; rw [e]
  exact List.perm_middle
/-- out of the state: what is put out is owned -/
theorem PSt.mine {w0 w : World} {D0 : List (List IdD × Value)} {F0 : List Nat} {A : Option Addr} {n c gl g8 : Nat} {dO dL : List (List IdD × Value)} {told : List IdD} {gL nL cL gO nO cO g3 m3 c3 : Nat}
    (h : PSt w0 D0 F0 A n c gl g8 dO dL told gL nL cL gO nO cO g3 m3 c3 w) (hp : D0.Perm (dO ++ dL)) (hn : F0.Nodup) (hO : nO = dO.length) : Mine w w0.heap.size (.sl 38 1 nO (cat partC (dO.map Prod.fst)) .nil) [.slice (some ⟨gO, 0, none⟩) nO cO] := by
  obtain ⟨F', hpf, ho⟩ := own_permP hp h.own
  rw [List.map_append, List.map_append, cat_app] at ho
  obtain ⟨c1, c2, F1, F2, hc, rfl, h1, h2⟩ := Own.app.1 ho
  have hl : c1.length = (dO.map Prod.snd).length := by rw [h1.length, cat_width partC_width]; simp
  obtain ⟨rfl, rfl⟩ := List.append_inj hc hl.symm
  have hnd : (F1 ++ F2).Nodup := (hpf.nodup_iff).2 hn
  have hg : gO ∉ F1 := fun hm => h.f1.2.1 (hpf.mem_iff.1 (List.mem_append_left _ hm))
  refine ⟨gO :: F1, List.nodup_cons.2 ⟨hg, (List.nodup_append.1 hnd).1⟩, Own.sl1.2 ⟨_, F1, rfl, by rw [cat_width partC_width, List.length_map, hO], ownsRow_keep h.out (fun b hb => ⟨by have := (h.out.lt b hb).1; omega, rfl⟩), h1⟩⟩
theorem own_repI {w : World} {base e sz n c : Nat} {A : Option Addr} {i : Cs} {cells : List Value} (h : w.ownsRow base e sz (.slice A n c) n cells) (hw : i.width = n * sz) (hi : Rep anyB w i cells) : Rep anyB w (.sl e sz n i .nil) [.slice A n c] := by
  simp only [Rep]
  refine ⟨A, c, cells, [], rfl, hw, fun h0 => ?_, hi, rfl⟩
  rcases h.2 with ⟨_, h1⟩ | ⟨g, cap, cur, hv, hb, hh, _⟩
  · exact absurd h1 h0
  · injection hv with e1 _ e3
    subst e1
    exact ⟨⟨g, 0, none⟩, rfl, trivial, (Array.getElem?_eq_some_iff.1 hh).1, fun j u hu => h.cells rfl j u hu⟩
theorem own_at_P {w : World} {base : Nat} : ∀ {d : List (List IdD × Value)} {F : List Nat}, Own w base (cat partC (d.map Prod.fst)) (d.map Prod.snd) F → ∀ x ∈ d, ∃ A c, x.2 = .slice A x.1.length c ∧ Rep anyB w (partC x.1) [x.2]
  | [], _, _, x, hx => by cases hx
  | y :: d, F, h, x, hx => by
    rw [List.map_cons, List.map_cons, cat_cons] at h
    obtain ⟨c1, c2, F1, F2, hc, rfl, h1, h2⟩ := Own.app.1 h
    have hl : c1.length = 1 := h1.length.trans (partC_width _)
    obtain ⟨rfl, rfl⟩ := List.append_inj (s₁ := [y.2]) hc (by rw [hl]; rfl)
    rcases List.mem_cons.1 hx with rfl | hx
    · have hr := h1.repAny
      obtain ⟨A, c, c', he, _, _⟩ := Rep.sl.1 (show Rep anyB w (.sl 36 2 x.1.length (cat IdD.c x.1) .nil) [x.2] from hr)
      injection he with he _
      exact ⟨A, c, he, hr⟩
    · exact own_at_P h2 x hx
theorem PSt.at {w0 w : World} {D0 : List (List IdD × Value)} {F0 : List Nat} {A : Option Addr} {n c gl g8 : Nat} {dO dL : List (List IdD × Value)} {told : List IdD} {gL nL cL gO nO cO g3 m3 c3 : Nat}
    (h : PSt w0 D0 F0 A n c gl g8 dO dL told gL nL cL gO nO cO g3 m3 c3 w) (hp : D0.Perm (dO ++ dL)) : ∀ x ∈ dL, ∃ A c, x.2 = .slice A x.1.length c ∧ Rep anyB w (partC x.1) [x.2] := fun x hx =>
  own_at_P h.own x (hp.mem_iff.2 (List.mem_append_right _ hx))
theorem PSt.repL {w0 w : World} {D0 : List (List IdD × Value)} {F0 : List Nat} {A : Option Addr} {n c gl g8 : Nat} {dO dL : List (List IdD × Value)} {told : List IdD} {gL nL cL gO nO cO g3 m3 c3 : Nat}
    (h : PSt w0 D0 F0 A n c gl g8 dO dL told gL nL cL gO nO cO g3 m3 c3 w) (hp : D0.Perm (dO ++ dL)) (hL : nL = dL.length) : Rep anyB w (.sl 38 1 nL (cat partC (dL.map Prod.fst)) .nil) [.slice (some ⟨gL, 0, none⟩) nL cL] := by
  obtain ⟨F', _, ho⟩ := own_permP hp h.own
  rw [List.map_append, List.map_append, cat_app] at ho
  obtain ⟨c1, c2, F1, F2, hc, rfl, h1, h2⟩ := Own.app.1 ho
  have hl : c1.length = (dO.map Prod.snd).length := by rw [h1.length, cat_width partC_width]; simp
  obtain ⟨rfl, rfl⟩ := List.append_inj hc hl.symm
  exact own_repI h.left (by rw [cat_width partC_width, List.length_map, hL]) h2.repAny
set_option maxRecDepth 100000 in
set_option maxHeartbeats 8000000 in
theorem iParts_any (xs : List InstD) (A : Option Addr) (n c : Nat) (w : World) (hn : n = xs.length) (hwt : n + (cat InstD.c xs).wt ≤ 1048576) (h : Rep anyB w (.sl 40 16 n (cat InstD.c xs) .nil) [.slice A n c]) :
    Calls Try.prog 18 #[.slice A n c] w fun e w' => ∃ A2 m c2, e = .returned (.slice A2 m c2) ∧ m = (fParts xs).length ∧ Mine w' w.heap.size (.sl 38 1 m (cat partC (fParts xs)) .nil) [.slice A2 m c2] ∧ Below w.heap.size w w' := by
  have HOK := Lib.hid (fun W h => iInstsOk_any xs A n c W hn hwt h)
  have HR := Lib.hid h; clear h
  obtain ⟨R, hR⟩ : ∃ R, R = fParts xs := ⟨_, rfl⟩
  rw [← hR]
  have LB := Lib.hid (show Blk (w.alloc (.cells #[.slice A n c] 33)) w.heap.size 33 [.slice A n c].toArray from blk_new _ _ _)
  have hmf : ∀ (fn : Fn) (first cap : Array Value) (w : World), (Instr.makeFunc fn first cap).run Try.prog w = .ok (.func fn first cap) w := fun _ _ _ _ => rfl
  cases hok : instsOkB xs with
  | false =>
    have hR2 : R = [] := by rw [hR, fParts, if_neg (by simp [hok])]
    subst hR2
    clear hR hn hwt
    rw [hok] at HOK
    go_enter Try.func18, Try.ntmps18
    have hb0 := blk_cell0 (L := [.slice A n c]) LB.out 0 rfl
    go_wp2_with fail
    clear hb0
    refine (HOK.out _ (HR.out.below (by repeat' (first | with_reducible exact Below.refl _ _ | with_reducible exact BW.out | with_reducible refine Below.setCell ?_ ?_ _ | with_reducible refine Below.alloc ?_ ?_ _ | with_reducible refine Below.drew ?_ | (simp; done) | (simp; omega) | omega)))).mono ?_; rintro e v1 ⟨rfl, hb⟩
    have BW := Lib.hid (show Below w.heap.size w v1 from Below.trans (by repeat' (first | with_reducible exact Below.refl _ _ | with_reducible exact BW.out | with_reducible refine Below.setCell ?_ ?_ _ | with_reducible refine Below.alloc ?_ ?_ _ | with_reducible refine Below.drew ?_ | (simp; done) | (simp; omega) | omega)) (hb.mono (by first | (simp; done) | (simp; omega) | omega))); clear hb
    go_wp2
    go_ret
    exact ⟨_, _, _, rfl, rfl, mine_row0 _, BW.out⟩
  | true =>
    have hR2 : R = implF (mayI xs) (xs.length + 1) ((repsF (partF xs) (rdyB xs) [] (idsOf xs)).map (partF xs)) [] := by rw [hR, fParts, if_pos hok, parts_impl hok]
    have HRR := Lib.hid hR2; clear hR2 hR
    rw [hok] at HOK
    have hn18 := insts_len18 hok
    have hnn : n ≤ 18 := by omega
    have HN := Lib.hid hn
    have HRY := Lib.hid (fun y cs W hh hh' => by have := iReady_any xs y A n c cs W hn hwt (Nat.zero_le _) hh hh'; rw [show fReady xs y = rdyB xs y from by unfold fReady rdyB rchL; rw [hok, Bool.true_and]] at this; exact this : ∀ (y : IdD) (cs : List Value) (W : World), Rep anyB W (.sl 40 16 n (cat InstD.c xs) .nil) [.slice A n c] → Rep anyB W y.c cs → Calls Try.prog 56 #[.slice A n c, .agg cs.toArray] W fun e w' => e = .returned (.bool (rdyB xs y)) ∧ Below W.heap.size W w')
    have HPT := Lib.hid (fun y cs W hrd hh hh' => iPart_any xs y A n c cs W hn hwt hok hrd hh hh')
    have HPL := Lib.hid (fun x => Nat.le_trans (@partF_le xs x) hn18)
    have HFR := Lib.hid (fun p t A1 m1 c1 A2 m2 c2 gl g8 W h1 hw1 h2 hw2 hl h8 hh hp ht => partsFn2_any xs p t A n c A1 m1 c1 A2 m2 c2 gl g8 W hn hwt hok h1 hw1 h2 hw2 hl h8 hh hp ht)
    have HRL := Lib.hid (show (repsF (partF xs) (rdyB xs) [] (idsOf xs)).length ≤ xs.length from Nat.le_trans (repsF_len (idsOf xs) []) (by unfold idsOf; simp))
    obtain ⟨REPS, hREPS⟩ : ∃ r, r = repsF (partF xs) (rdyB xs) [] (idsOf xs) := ⟨_, rfl⟩
    rw [← hREPS] at HRR HRL
    have HREPS := Lib.hid hREPS; clear hREPS
    clear hn hok hn18 hwt
    go_enter Try.func18, Try.ntmps18
    have hb0 := blk_cell0 (L := [.slice A n c]) LB.out 0 rfl
    go_wp2_with fail
    clear hb0
    refine (HOK.out _ (HR.out.below (by repeat' (first | with_reducible exact Below.refl _ _ | with_reducible exact BW.out | with_reducible refine Below.setCell ?_ ?_ _ | with_reducible refine Below.alloc ?_ ?_ _ | with_reducible refine Below.drew ?_ | (simp; done) | (simp; omega) | omega)))).mono ?_; rintro e v0 ⟨rfl, hb⟩
    have BW := Lib.hid (show Below w.heap.size w v0 from Below.trans (by repeat' (first | with_reducible exact Below.refl _ _ | with_reducible exact BW.out | with_reducible refine Below.setCell ?_ ?_ _ | with_reducible refine Below.alloc ?_ ?_ _ | with_reducible refine Below.drew ?_ | (simp; done) | (simp; omega) | omega)) (hb.mono (by first | (simp; done) | (simp; omega) | omega)))
    have HZ := Lib.hid (show w.heap.size + 1 ≤ v0.heap.size from Nat.le_trans (by simp) hb.size)
    have X := Lib.hid (LB.out.below hb); clear LB hb HOK
    have LB := Lib.hid X.out; clear X
    have LB2 := Lib.hid (LB.out.alloc (.cells #[] 38))
    have HP0 := Lib.hid (show POut (v0.alloc (.cells #[] 38)) w.heap.size (.slice (some ⟨v0.heap.size, 0, none⟩) 0 0) 0 [] w.heap.size from ⟨[v0.heap.size], by simp, Own.sl1.2 ⟨[], [], rfl, by simp [Cs.width, cat], World.ownsRow_made v0 #[] 0 (by have := HZ.out; omega) (by simp [maxLen]) rfl, Own.nil.2 ⟨rfl, rfl⟩⟩, by have := HZ.out; simp; omega⟩)
    have BW2 := Lib.hid (BW.out.alloc BW.out.size (.cells #[] 38))
    have hb0 := blk_cell0 (L := [.slice A n c]) LB2.out 0 rfl
    go_wp2
    clear hb0
    go_loopw [3, 16] (fun oo ii wr => ∃ (i q g c' : Nat) (done : List IdD), i ≤ n ∧ ii = .int .i64 (i : Int) ∧ oo = .slice (some ⟨g, 0, none⟩) q c' ∧ q = (done.map (partF xs)).length ∧ q ≤ i ∧ repsF (partF xs) (rdyB xs) done ((idsOf xs).drop i) = REPS ∧ POut wr w.heap.size (.slice (some ⟨g, 0, none⟩) q c') q (done.map (partF xs)) w.heap.size ∧ Blk wr w.heap.size 33 [.slice A n c].toArray ∧ Below w.heap.size w wr) (fun _ ii _ => n - (intOf ii).toNat)
    case atStart => exact ⟨0, 0, _, _, [], Nat.zero_le _, rfl, rfl, rfl, Nat.le_refl _, HREPS.out.symm, HP0.out, LB2.out, BW2.out⟩
    case round =>
      obtain ⟨i, q, g, c', done, hi, rfl, rfl, hq, hqi, hrep, hpo, hlb, hbel⟩ := hrel
      clear LB LB2 HP0 BW BW2 HREPS HZ
      have HQ := Lib.hid hq; clear hq
      have HD := Lib.hid hrep; clear hrep
      have HP := Lib.hid hpo; clear hpo
      have LB := Lib.hid hlb; clear hlb
      have BW := Lib.hid hbel; clear hbel
      have HLG := Lib.hid LB.out.lt
      by_cases hlt : i < n
      · have hix : i < xs.length := by have := HN.out; omega
        obtain ⟨ad, ci, rfl, _, _, hrc, hl, hc⟩ := (HR.out.below BW.out).elem InstD.width i hix HN.out
        have hone := hrc.one
        have hxid := fun (v : World) (gx : Nat) (hb : Blk v gx 40 ci.toArray) => id_cells hrc (blk_cells hb)
        have hdy : (idsOf xs).drop i = xs[i].id :: (idsOf xs).drop (i + 1) := by
          have hl : i < (idsOf xs).length := by unfold idsOf; rw [List.length_map]; exact hix
          rw [List.drop_eq_getElem_cons hl]
          congr 1
          exact List.getElem_map InstD.id
        have hD2 := HD.out
        rw [hdy, repsF] at hD2
        have hD3 : repsF (partF xs) (rdyB xs) (if ((done.map (partF xs)).any fun p => decide (xs[i].id ∈ p)) = false ∧ rdyB xs xs[i].id = true then done ++ [xs[i].id] else done) ((idsOf xs).drop (i + 1)) = REPS := by
          rw [List.any_map]; exact hD2
        clear hD2 hdy HD
        have HD := Lib.hid hD3; clear hD3
        have HL := Lib.hid hl; clear hl
        have HC := Lib.hid hc; clear hc hrc
        have H1 := Lib.hid hone; clear hone
        generalize xs[i].id = y at *
        have HXI := Lib.hid hxid; clear hxid
        obtain ⟨gx, hgx⟩ : ∃ gx, gx = wr.heap.size := ⟨_, rfl⟩
        have HGX := Lib.hid hgx; clear hgx
        go_wp2_with (first
          | ((with_reducible show wpList _ _ _ ({ dst := _, op := Op.load 40 _, type := _, pos := _, after := _, guard := _ } :: _) _ _); refine wpList_load_row _ (ad.add (i * 16)) rfl ci agg_Inst HL.out HC.out ?_)
          | ((with_reducible show wpList _ _ _ ({ dst := _, op := Op.store 40 _ _, type := _, pos := _, after := _, guard := _ } :: _) _ _); go_must (refine wpList_store_row _ wr.heap.size 40 0 ci [] [.int .i64 0, .int .i64 0, .int .i64 0, .int .i64 0, .int .i64 0, .int .i64 0, .int .i64 0, .int .i64 0, .string ⟨#[]⟩, .string ⟨#[]⟩, .string ⟨#[]⟩, .int .i64 0, .slice none 0 0, .int .i64 0, .slice none 0 0, .bool false] [] _ rfl rfl (HL.out ▸ agg_Inst) (blk_new wr _ _) rfl rfl HL.out.symm H1.out ?_; intro v1 h4 g4; rw [← HGX.out] at h4 g4 ⊢; have XB := Lib.hid (show Blk v1 gx 40 ci.toArray by simpa using h4); have D1 := Lib.hid (show Below wr.heap.size wr v1 from Below.grown ((Below.refl _ _).alloc (Nat.le_refl _) _) g4 (by simp) (fun k hk => by injection hk with hk; have := HGX.out; omega)); clear h4 g4))
          | fail)
        have X := Lib.hid (HP.out.below D1.out); clear HP
        have HP := Lib.hid X.out; clear X
        have X := Lib.hid (LB.out.below D1.out); clear LB
        have LB := Lib.hid X.out; clear X
        have X := Lib.hid (BW.out.trans (Below.mono D1.out BW.out.size)); clear BW
        have BW := Lib.hid X.out; clear X
        clear D1 HC
        refine (containsP_any (done.map (partF xs)) y (some ⟨g, 0, none⟩) q c' gx _ HQ.out (by omega) (fun p hp => by obtain ⟨r, _, rfl⟩ := List.mem_map.1 hp; have := HPL.out r; omega) (HXI.out _ _ XB.out) HP.out.rep).mono ?_; rintro e v2 ⟨rfl, hb⟩
        have X := Lib.hid (HP.out.below hb); clear HP
        have HP := Lib.hid X.out; clear X
        have X := Lib.hid (LB.out.below hb); clear LB
        have LB := Lib.hid X.out; clear X
        have X := Lib.hid (BW.out.trans (Below.mono hb BW.out.size)); clear BW
        have BW := Lib.hid X.out; clear X
        have X := Lib.hid (XB.out.below hb); clear XB
        have XB := Lib.hid X.out; clear X
        clear hb
        cases hk : ((done.map (partF xs)).any fun p => decide (y ∈ p)) with
        | true =>
          have HD2 := Lib.hid (show repsF (partF xs) (rdyB xs) done ((idsOf xs).drop (i + 1)) = REPS from by have h0 := HD.out; rw [if_neg (by rw [hk]; simp)] at h0; exact h0); clear HD hk
          go_wp2
          exact ⟨⟨i + 1, q, g, c', done, by omega, by go_num, rfl, HQ.out, by omega, HD2.out, HP.out, LB.out, BW.out⟩, by simp only [intOf]; omega⟩
        | false =>
          have hb0 := blk_cell0 (L := [.slice (some ad) n c]) LB.out 0 rfl
          go_wp2_with (first | ((with_reducible show wpList _ _ _ ({ dst := _, op := Op.load 36 _, type := _, pos := _, after := _, guard := _ } :: _) _ _); refine wpList_load_row_g _ (by rfl) ⟨gx, 0, none⟩ rfl [.int .i64 _, .int .i64 _] agg_Id rfl (HXI.out _ _ XB.out) ?_) | fail)
          clear hb0
          refine (HRY.out y _ _ (HR.out.below BW.out) (id_shut2 _ _)).mono ?_; rintro e v3 ⟨rfl, hb⟩
          have X := Lib.hid (HP.out.below hb); clear HP
          have HP := Lib.hid X.out; clear X
          have X := Lib.hid (LB.out.below hb); clear LB
          have LB := Lib.hid X.out; clear X
          have X := Lib.hid (BW.out.trans (Below.mono hb BW.out.size)); clear BW
          have BW := Lib.hid X.out; clear X
          have X := Lib.hid (XB.out.below hb); clear XB
          have XB := Lib.hid X.out; clear X
          clear hb
          cases hy : rdyB xs y with
          | false =>
            have HD2 := Lib.hid (show repsF (partF xs) (rdyB xs) done ((idsOf xs).drop (i + 1)) = REPS from by have h0 := HD.out; rw [if_neg (by rw [hy]; simp)] at h0; exact h0); clear HD hk hy
            go_wp2
            exact ⟨⟨i + 1, q, g, c', done, by omega, by go_num, rfl, HQ.out, by omega, HD2.out, HP.out, LB.out, BW.out⟩, by simp only [intOf]; omega⟩
          | true =>
            have HD2 := Lib.hid (show repsF (partF xs) (rdyB xs) (done ++ [y]) ((idsOf xs).drop (i + 1)) = REPS from by have h0 := HD.out; rw [if_pos ⟨hk, hy⟩] at h0; exact h0); clear HD hk
            have HYR := Lib.hid hy; clear hy
            have hb0 := blk_cell0 (L := [.slice (some ad) n c]) LB.out 0 rfl
            go_wp2_with (first | ((with_reducible show wpList _ _ _ ({ dst := _, op := Op.load 36 _, type := _, pos := _, after := _, guard := _ } :: _) _ _); refine wpList_load_row_g _ (by rfl) ⟨gx, 0, none⟩ rfl [.int .i64 _, .int .i64 _] agg_Id rfl (HXI.out _ _ XB.out) ?_) | fail)
            clear hb0
            refine (HPT.out y _ _ HYR.out (HR.out.below BW.out) (id_shut2 _ _)).mono ?_; rintro e v4 ⟨g4, m4, c4, rfl, hm4, hown4, hb⟩
            have h4b := (hown4.lt g4 rfl).1
            obtain ⟨cells0, F0, hpr, hpi, hpn, hp2⟩ := HP.out.open
            have HG5 := Lib.hid (show g4 ∉ (Value.slice (some ⟨g, 0, none⟩) q c').ownBlock.toList ++ F0 from fun hm => by have := mine_open_lt hpr hpi g4 hm; omega)
            have HG3 := Lib.hid (show g4 ≠ w.heap.size from fun e => by have := LB.out.lt; omega)
            have HPR := Lib.hid hpr; clear hpr
            have HPI := Lib.hid hpi; clear hpi
            have HPN := Lib.hid hpn; clear hpn
            have HP2 := Lib.hid hp2; clear hp2
            have H4 := Lib.hid (ownsRow_keep (base' := w.heap.size) hown4 (w' := v4) (fun b hb2 => ⟨Nat.le_trans BW.out.size (hown4.lt b hb2).1, rfl⟩)); clear hown4 h4b
            have HM4 := Lib.hid hm4; clear hm4
            have X := Lib.hid (HP.out.below hb); clear HP
            have HP := Lib.hid X.out; clear X
            have X := Lib.hid (LB.out.below hb); clear LB
            have LB := Lib.hid X.out; clear X
            have X := Lib.hid (BW.out.trans (Below.mono hb BW.out.size)); clear BW
            have BW := Lib.hid X.out; clear X
            have X := Lib.hid (HPR.out.keptBelowJ hb); clear HPR
            have HPR := Lib.hid X.out; clear X
            have X := Lib.hid (HPI.out.below hb); clear HPI
            have HPI := Lib.hid X.out; clear X
            clear hb XB
            go_wp2_with (first
              | (at_builtin; go_must (refine wpList_app E_IdS _ rfl (.tmp 31) (.tmp 36) rfl w.heap.size _ q cells0 rfl (HPR.out.alloc _) _ _ _ _ rfl (Reads.new (e := 38) rfl) (by intro u hu; simp at hu; subst hu; rfl) (by omega) (Nat.le_trans BW.out.size (by simp)) ?_; intro v6 w6 hown6 hg6 hat6; have hb5 : Below v4.heap.size v4 (World.alloc v4 (.cells #[.slice (some ⟨g4, 0, none⟩) m4 c4] 38)) := (Below.refl _ _).alloc (Nat.le_refl _) _; have P6 := Lib.hid (show POut w6 w.heap.size v6 (q + 1) (done.map (partF xs) ++ [partF xs y]) w.heap.size from POut.add (w := World.alloc v4 (.cells #[.slice (some ⟨g4, 0, none⟩) m4 c4] 38)) HQ.out (HPI.out.below hb5) HPN.out HP2.out (Nat.lt_of_lt_of_le LB.out.lt hb5.size) HM4.out (H4.out.keptBelowJ hb5) (fun b hb2 => by injection hb2 with hb2; subst hb2; exact ⟨HG5.out, HG3.out⟩) hown6 hg6 hat6); have L6 := Lib.hid (show Blk w6 w.heap.size 33 [.slice (some ad) n c].toArray from (LB.out.alloc _).keep (hg6.block _ (LB.out.alloc _).lt (fun e => HP2.out (List.mem_append_left _ (by rw [show (Value.slice (some ⟨g, 0, none⟩) q c').ownBlock = some w.heap.size from e.symm]; simp))))); have B6 := Lib.hid (show Below w.heap.size w w6 from Below.grown (BW.out.alloc BW.out.size _) hg6 (Nat.le_trans BW.out.size (by simp)) (fun k hk => (HPR.out.lt k hk).1)); obtain ⟨g7, c7, rfl, _⟩ := own_some0 hown6 (Nat.succ_pos q); clear hown6 hg6 hat6 hb5))
              | fail)
            have Z1 := Lib.hid (show POut w6 w.heap.size (.slice (some ⟨g7, 0, none⟩) (q + 1) c7) (q + 1) ((done ++ [y]).map (partF xs)) w.heap.size from by rw [List.map_append]; exact P6.out)
            have Z2 := Lib.hid (show q + 1 = ((done ++ [y]).map (partF xs)).length from by rw [List.map_append, List.length_append, ← HQ.out]; rfl)
            exact ⟨⟨i + 1, q + 1, g7, c7, done ++ [y], by omega, by go_num, rfl, Z2.out, by omega, HD2.out, Z1.out, L6.out, B6.out⟩, by simp only [intOf]; omega⟩
      · have hjn : i = n := by omega
        have hd := HD.out
        rw [List.drop_eq_nil_of_le (by unfold idsOf; rw [List.length_map]; have := HN.out; omega), repsF] at hd
        subst hd
        subst hjn
        clear HD
        obtain ⟨cells0, F0, hpr, hpi, hpn, hp2⟩ := HP.out.open
        have hcl : cells0.length = q := by have := hpr.1; omega
        have hgw := hpr.lt g rfl
        have hgl : g ≠ w.heap.size := fun e => hp2 (List.mem_append_left _ (by rw [← e]; simp [Value.ownBlock]))
        have hlm : (done.map (partF xs)).length = cells0.length := by rw [hcl]; exact HQ.out.symm
        have hin := fun b (hb : b ∈ F0) => (hpi.in b hb).2
        have hq18 : q ≤ 18 := by omega
        have h0 : PSt w ((done.map (partF xs)).zip cells0) F0 A i c w.heap.size (wr.heap.size + 2) [] ((done.map (partF xs)).zip cells0) [] g q c' wr.heap.size 0 0 (wr.heap.size + 1) 0 0 (((wr.alloc (.cells #[] 38)).alloc (.cells #[] 36)).alloc (.cells #[.slice (some ⟨wr.heap.size + 1, 0, none⟩) 0 0] 38)) := by
          have hb4 : Below wr.heap.size wr (((wr.alloc (.cells #[] 38)).alloc (.cells #[] 36)).alloc (.cells #[.slice (some ⟨wr.heap.size + 1, 0, none⟩) 0 0] 38)) := (((Below.refl _ _).alloc (Nat.le_refl _) _).alloc (by simp) _).alloc (by simp; omega) _
          have hW1 : ((wr.alloc (.cells #[] 38)).alloc (.cells #[] 36)).heap.size = wr.heap.size + 2 := by simp
          have hbx : Blk (((wr.alloc (.cells #[] 38)).alloc (.cells #[] 36)).alloc (.cells #[.slice (some ⟨wr.heap.size + 1, 0, none⟩) 0 0] 38)) (wr.heap.size + 2) 38 [.slice (some ⟨wr.heap.size + 1, 0, none⟩) 0 0].toArray := by have h1 := blk_new ((wr.alloc (.cells #[] 38)).alloc (.cells #[] 36)) #[.slice (some ⟨wr.heap.size + 1, 0, none⟩) 0 0] 38; rw [hW1] at h1; exact h1
          have hbe := BW.out.size
          refine ⟨BW.out.trans (hb4.mono hbe), LB.out.below hb4, hbx, ?_, ?_, ?_, ?_, ⟨?_, fun hm => by have := hin _ hm; omega, fun hm => by have := hin _ hm; omega, fun hm => by have := hin _ hm; omega, fun hm => hp2 (List.mem_append_right _ hm)⟩, ⟨by omega, by omega, by omega, by omega, by omega, by omega⟩, ⟨fun e => hgl e.symm, by have := LB.out.lt; omega, by have := LB.out.lt; omega, by have := LB.out.lt; omega⟩, by omega⟩
          · rw [zip_fst _ _ hlm, zip_snd _ _ hlm]; exact hpi.below hb4
          · rw [zip_snd _ _ hlm]; exact ownsRow_keep (hpr.keptBelowJ hb4) (fun b hb => by injection hb with hb; subst hb; exact ⟨by simp at hgw ⊢; omega, rfl⟩)
          · have h1 : (wr.alloc (.cells #[] 38)).ownsRow (w.heap.size + 1) 38 1 (.slice (some ⟨wr.heap.size, 0, none⟩) 0 0) 0 [] := World.ownsRow_made wr #[] 0 (by have := LB.out.lt; omega) (by simp [maxLen]) rfl
            exact (h1.alloc _).alloc _
          · have h1 : ((wr.alloc (.cells #[] 38)).alloc (.cells #[] 36)).ownsRow (w.heap.size + 1) 36 2 (.slice (some ⟨wr.heap.size + 1, 0, none⟩) 0 0) 0 (idCells []) := own_nilAt _ _ _ _ _ (by simp) (by have := LB.out.lt; omega)
            exact h1.alloc _
          · exact fun hm => (List.nodup_append.1 hpn).2.2 g (by simp [Value.ownBlock]) g hm rfl
        have HPS := Lib.hid h0; clear h0
        have HF0 := Lib.hid (List.nodup_append.1 hpn).2.1
        have HDL := Lib.hid (show q = ((done.map (partF xs)).zip cells0).length from by rw [List.length_zip, hlm, Nat.min_self]; exact hcl.symm)
        have HD18 := Lib.hid (show ∀ d ∈ (done.map (partF xs)).zip cells0, d.1.length ≤ 18 from fun d hd => by obtain ⟨r, _, hr⟩ := List.mem_map.1 (show d.1 ∈ done.map (partF xs) from by have h1 := List.mem_map_of_mem (f := Prod.fst) hd; rwa [zip_fst _ _ hlm] at h1); rw [← hr]; exact HPL.out r)
        have HT0 := Lib.hid (show ([] : List (List IdD × Value)).map Prod.fst ++ implF (mayI xs) (xs.length + 1) (((done.map (partF xs)).zip cells0).map Prod.fst) [] = R from by rw [zip_fst _ _ hlm]; exact HRR.out.symm)
        have HFU := Lib.hid (show q + 1 ≤ xs.length + 1 from by have := HN.out; omega)
        clear hpr hpi hpn hp2 hcl hgw hgl hlm hin HP LB HRR HRL HQ HLG BW
        generalize (done.map (partF xs)).zip cells0 = D0 at *
        obtain ⟨g8, hg8⟩ : ∃ g8, g8 = wr.heap.size + 2 := ⟨_, rfl⟩
        have HG8 := Lib.hid hg8; clear hg8
        go_wp2
        rename World => wq
        go_loopw [3, 7] (fun ll oo wr2 => ∃ (f : Nat) (told : List IdD) (dO dL : List (List IdD × Value)) (gL nL cL gO nO cO g3 m3 c3 : Nat), ll = .slice (some ⟨gL, 0, none⟩) nL cL ∧ oo = .slice (some ⟨gO, 0, none⟩) nO cO ∧ nL = dL.length ∧ nO = dO.length ∧ m3 = told.length ∧ m3 ≤ 18 * nO ∧ nO + nL ≤ 18 ∧ nL + 1 ≤ f ∧ dO.map Prod.fst ++ implF (mayI xs) f (dL.map Prod.fst) told = R ∧ D0.Perm (dO ++ dL) ∧ PSt w D0 F0 A i c w.heap.size (wq.heap.size + 2) dO dL told gL nL cL gO nO cO g3 m3 c3 wr2) (fun ll _ _ => match ll with | .slice _ k _ => k | _ => 0)
        case atStart => exact ⟨xs.length + 1, [], [], D0, _, _, _, _, _, _, _, _, _, rfl, rfl, HDL.out, rfl, rfl, Nat.zero_le _, by omega, HFU.out, HT0.out, List.Perm.refl _, HPS.out⟩
        case round =>
          obtain ⟨f, told, dO, dL, gL, nL, cL, gO, nO, cO, g3, m3, c3, rfl, rfl, hnL, hnO, hm3, hm18, hq2, hf, hR2, hpm, hps⟩ := hrel
          clear HPS HDL HT0 HFU HG8
          have HS := Lib.hid hps; clear hps
          have HPM := Lib.hid hpm; clear hpm
          have HR2 := Lib.hid hR2; clear hR2
          have HNL := Lib.hid hnL; clear hnL
          have HNO := Lib.hid hnO; clear hnO
          have HM3 := Lib.hid hm3; clear hm3
          have H818 := Lib.hid (show ∀ d ∈ dL, d.1.length ≤ 18 from fun d hd => HD18.out d (HPM.out.mem_iff.2 (List.mem_append_right _ hd)))
          cases nL with
          | zero =>
            have hdl : dL = [] := List.eq_nil_of_length_eq_zero HNL.out.symm
            go_wp2
            have hRe : R = dO.map Prod.fst := by have h0 := HR2.out; rw [hdl] at h0; rw [← h0]; cases f <;> simp [implF]
            go_ret
            refine ⟨_, _, _, rfl, ?_, ?_, HS.out.bel⟩
            · rw [hRe, List.length_map]; exact HNO.out
            · rw [hRe]; exact HS.out.mine HPM.out HF0.out HNO.out
          | succ nL =>
            go_wp2_with fail
            refine (indexP2_any (dL.map Prod.fst) (fun p => mayI xs p told) (some ⟨gL, 0, none⟩) (nL + 1) cL (w.heap.size, wq.heap.size + 2) wr (by rw [List.length_map]; exact HNL.out) (by omega) (HS.out.repL HPM.out HNL.out) (fun W hbW j hj A1 m1 c1 hm1 hr1 => ?_)).mono ?_
            · have hpl : ((dL.map Prod.fst)[j]).length ≤ 18 := by rw [List.getElem_map]; exact H818.out _ (List.getElem_mem _)
              exact HFR.out _ told A1 m1 c1 (some ⟨g3, 0, none⟩) m3 c3 w.heap.size (wq.heap.size + 2) W hm1 (by omega) HM3.out (by omega) (HS.out.lb.below hbW) (HS.out.bb.below hbW) (HR.out.below (HS.out.bel.trans (hbW.mono HS.out.bel.size))) hr1 (own_rep (HS.out.tl.keptBelowJ hbW) HM3.out)
            rintro e v1 ⟨rfl, hb⟩
            have X := Lib.hid (HS.out.below hb); clear HS
            have HS := Lib.hid X.out; clear X
            clear hb
            obtain ⟨f, rfl⟩ : ∃ f', f = f' + 1 := ⟨f - 1, by omega⟩
            have HRI := Lib.hid HR2.out; clear HR2
            cases hk : (dL.map Prod.fst).findIdx? (fun p => mayI xs p told) with
            | none =>
              have hRe : R = dO.map Prod.fst := by have h0 := HRI.out; rw [implF, hk] at h0; rw [← h0]; simp
              simp only []
              go_wp2
              go_ret
              refine ⟨_, _, _, rfl, ?_, ?_, HS.out.bel⟩
              · rw [hRe, List.length_map]; exact HNO.out
              · rw [hRe]; exact HS.out.mine HPM.out HF0.out HNO.out
            | some k =>
              have hkl : k < dL.length := by obtain ⟨h1, _⟩ := List.findIdx?_eq_some_iff_getElem.1 hk; rwa [List.length_map] at h1
              obtain ⟨x, hx⟩ : ∃ x, x = dL[k] := ⟨_, rfl⟩
              have hxm : x ∈ dL := hx ▸ List.getElem_mem _
              obtain ⟨p, sv⟩ := x
              have hgt : (dL.map Prod.snd)[k]? = some sv := by rw [List.getElem?_map, List.getElem?_eq_getElem hkl, ← hx]; rfl
              have HRJ := Lib.hid (show (dO ++ [(p, sv)]).map Prod.fst ++ implF (mayI xs) f ((dL.eraseIdx k).map Prod.fst) (told ++ p) = R from by have h0 := HRI.out; rw [implF, hk] at h0; simp only [] at h0; rw [show (dL.map Prod.fst).getD k [] = p from by rw [List.getD_eq_getElem?_getD, List.getElem?_map, List.getElem?_eq_getElem hkl, ← hx]; rfl, map_erase] at h0; rw [← h0]; simp); clear HRI
              have HPN := Lib.hid (show D0.Perm ((dO ++ [(p, sv)]) ++ dL.eraseIdx k) from by rw [hx]; exact HPM.out.trans (perm_move dO dL k hkl))
              have hkn : k < nL + 1 := by have := HNL.out; omega
              have HEL := Lib.hid (show nL = (dL.eraseIdx k).length from by rw [List.length_eraseIdx, if_pos hkl]; have := HNL.out; omega)
              have hpl : p.length ≤ 18 := H818.out _ hxm
              obtain ⟨A4, c4, he4, _⟩ := HS.out.at HPM.out _ hxm
              have he5 : sv = .slice A4 p.length c4 := he4
              obtain ⟨m4, hm4⟩ : ∃ m, m = p.length := ⟨_, rfl⟩
              rw [← hm4] at he5
              subst he5
              have HXM := Lib.hid hxm; clear hxm he4
              have hm418 : m4 ≤ 18 := by omega
              have HM4 := Lib.hid hm4; clear hm4 hpl
              have HONE := Lib.hid (show ∀ u ∈ dL.map Prod.snd, u.oneCell' = true from fun u hu => by obtain ⟨d, hd, rfl⟩ := List.mem_map.1 hu; obtain ⟨_, _, h1, _⟩ := HS.out.at HPM.out d hd; rw [h1]; rfl)
              have HGT := Lib.hid hgt; clear hgt hk hx
              have HKL := Lib.hid hkl; clear hkl
              have hck := World.ownsRow.cells (g := gL) HS.out.left rfl k _ HGT.out
              rw [add_plain, Nat.zero_add] at hck
              simp only []
              have dk : decide ((k : Int) < 0) = false := by simp
              go_wp2_with (first
                | (at_builtin; go_must (refine wpList_app E_IdS _ rfl (.tmp 49) (.tmp 54) rfl (w.heap.size + 1) _ nO (dO.map Prod.snd) rfl (HS.out.out.alloc _) _ _ _ _ rfl (Reads.new (e := 38) rfl) (by intro u hu; simp at hu; subst hu; rfl) (by omega) (by have := HS.out.bel.size; simp; omega) ?_; intro v6 w6 hown6 hg6 hat6; obtain ⟨g7, c7, rfl, _⟩ := own_some0 hown6 (Nat.succ_pos nO); have HS6 := Lib.hid (PSt.addOut (HS.out.below ((Below.refl _ _).alloc (Nat.le_refl _) (.cells #[.slice A4 m4 c4] 38))) (x := (p, .slice A4 m4 c4)) hg6 (by rcases hat6 with e | e; (left; injection e); (right; injection e with e; omega)) (by rw [List.map_append]; exact hown6)); clear hown6 hg6 hat6))
                | fail)
              clear HS hck
              have HS8 := Lib.hid (HS6.out.below ((Below.refl _ _).drew)); clear HS6
              refine wp_region_x 5 [0, 1, 2, 3, 4] (by kernel_rfl) (by kernel_rfl) ?_
              generalize w6.drew = w7 at *
              have hb8 : w7.cell? ⟨wq.heap.size + 2, 0, none⟩ = some (.slice (some ⟨g3, 0, none⟩) m3 c3) := blk_cell0 (L := [.slice (some ⟨g3, 0, none⟩) m3 c3]) HS8.out.bb 0 rfl
              have hck := World.ownsRow.cells (g := gL) HS8.out.left rfl k _ HGT.out
              rw [add_plain, Nat.zero_add] at hck
              iterate 5 (refine wpX_quiet rfl (by kernel_rfl) rfl ?_; go_wp2; refine ⟨rfl, ?_⟩)
              refine wpX_nil ?_; simp only [List.drop_succ_cons, List.drop_zero]
              clear hb8 hck
              obtain ⟨A5, c5, he5, hr5⟩ := own_at_P HS8.out.own _ (HPM.out.mem_iff.2 (List.mem_append_right _ HXM.out))
              have he6 : Value.slice A4 m4 c4 = .slice A5 p.length c5 := he5
              injection he6 with e1 e2 e3
              subst e1; subst e3
              have hr6 : Rep anyB w7 (partC p) [.slice A4 m4 c4] := hr5
              rw [HM4.out] at hr6
              obtain ⟨cells, hrd, hrc, _⟩ := Rep.row (show Rep anyB w7 (.sl 36 2 p.length (cat IdD.c p) .nil) [.slice A4 p.length c4] from hr6)
              obtain rfl := rep_ids hrc
              rw [← HM4.out] at hrd
              have HRD := Lib.hid hrd; have HRC := Lib.hid hrc.one; clear hrd hrc hr5 hr6 he5 e2
              go_wp2_with (first
                | (at_builtin; go_must (refine wpList_app E_Id _ rfl (.tmp 56) (.tmp 60) rfl (w.heap.size + 1) _ m3 (idCells told) rfl HS8.out.tl A4 m4 c4 (idCells p) rfl HRD.out HRC.out (by omega) (by have := (HS8.out.tl.lt g3 rfl).1; have := (HS8.out.tl.lt g3 rfl).2; omega) ?_; intro v9 w9 hown9 hg9 hat9; obtain ⟨g9, c9, rfl⟩ := own_someB hown9 hat9; have hbb9 := HS8.out.bb.keep (hg9.block _ HS8.out.bb.lt (fun e => HS8.out.d1.2.2.2.2.2 (by injection e with e; exact e.symm))); have hc9 : w9.cell? ⟨wq.heap.size + 2, 0, none⟩ = some (.slice (some ⟨g3, 0, none⟩) m3 c3) := blk_cell0 (L := [.slice (some ⟨g3, 0, none⟩) m3 c3]) hbb9 0 rfl; have hf9 : w9.frozen? ⟨wq.heap.size + 2, 0, none⟩ = false := hbb9.frozen 0; have HS9 := Lib.hid (PSt.addTold HS8.out (p := p) hg9 (by rcases hat9 with e | e; (left; injection e); (right; injection e with e; omega)) (by rw [show idCells (told ++ p) = idCells told ++ idCells p from idCells_app _ _]; exact hown9)); clear hown9 hg9 hat9 hbb9))
                | fail)
              clear HS8 HRD HRC hc9 hf9
              refine (del_parts (w.heap.size + 1) gL (nL + 1) cL k (dL.map Prod.snd) _ HONE.out HS9.out.left hkn).mono ?_; rintro e v10 ⟨rfl, hown10, hg10⟩
              simp only [Nat.add_sub_cancel] at hown10 ⊢
              have HS10 := Lib.hid (HS9.out.cut (dL' := dL.eraseIdx k) hg10 (by rw [← map_erase]; exact hown10)); clear HS9 hown10 hg10
              go_wp2
              exact ⟨⟨f, told ++ p, dO ++ [(p, .slice A4 m4 c4)], dL.eraseIdx k, gL, nL, cL, g7, nO + 1, c7, g9, m3 + m4, c9, rfl, rfl, HEL.out, by rw [List.length_append, ← HNO.out]; rfl, by rw [List.length_append, ← HM3.out, ← HM4.out], by omega, by omega, by omega, HRJ.out, HPN.out, HS10.out⟩, Nat.lt_succ_self _⟩

end Go.Proofs.Ytoffelfcmfpooaa
namespace Go.Proofs.Ytoffelfcmfpooaa
open Go.RowKit
theorem implF_small {may : List IdD → List IdD → Bool} (B : Nat) : ∀ (f : Nat) (left : List (List IdD)) (told : List IdD), (∀ p ∈ left, p.length ≤ B) → (implF may f left told).length ≤ f ∧ ∀ p ∈ implF may f left told, p.length ≤ B
  | 0, _, _, _ => ⟨Nat.le_refl _, fun p hp => by simp [implF] at hp⟩
  | f + 1, left, told, h => by
    rw [implF]
    split
    · exact ⟨Nat.zero_le _, fun p hp => by cases hp⟩
    · rename_i k _
      have h1 : (left.getD k []).length ≤ B := by
        rw [List.getD_eq_getElem?_getD]
        rcases Nat.lt_or_ge k left.length with hk | hk
        · rw [List.getElem?_eq_getElem hk]; exact h _ (List.getElem_mem hk)
        · rw [List.getElem?_eq_none hk]; exact Nat.zero_le _
      have h2 := implF_small (may := may) B f (left.eraseIdx k) (told ++ left.getD k []) (fun p hp => h p (List.mem_of_mem_eraseIdx hp))
      exact ⟨by rw [List.length_cons]; omega, fun p hp => by
        rcases List.mem_cons.1 hp with rfl | hp
        · exact h1
        · exact h2.2 p hp⟩
theorem fParts_small (xs : List InstD) : (fParts xs).length ≤ 19 ∧ ∀ p ∈ fParts xs, p.length ≤ 18 := by
  cases hok : instsOkB xs with
  | false => rw [fParts, if_neg (by simp [hok])]; exact ⟨Nat.zero_le _, fun p hp => by cases hp⟩
  | true =>
    rw [fParts, if_pos hok, ← parts_impl hok]
    have h18 := insts_len18 hok
    have h := implF_small (may := mayI xs) 18 (xs.length + 1) ((repsF (partF xs) (rdyB xs) [] (idsOf xs)).map (partF xs)) [] (fun p hp => by obtain ⟨r, _, rfl⟩ := List.mem_map.1 hp; exact Nat.le_trans (partF_le (xs := xs) r) h18)
    exact ⟨Nat.le_trans h.1 (by omega), h.2⟩
noncomputable def fExecOrder (xs : List InstD) : List IdD := (fParts xs).flatten
theorem flat_small {B : Nat} : ∀ l : List (List IdD), (∀ p ∈ l, p.length ≤ B) → l.flatten.length ≤ B * l.length
  | [], _ => by simp
  | x :: r, h => by
    have h1 := h x (by simp)
    have h2 := flat_small r (fun p hp => h p (by simp [hp]))
    rw [List.flatten_cons, List.length_append, List.length_cons, Nat.mul_succ]
    omega
theorem bExecOrder (xs : List InstD) (_ : xs.length + (cat InstD.c xs).wt ≤ 1048576) :
    (fExecOrder xs).length + (cat IdD.c (fExecOrder xs)).wt ≤ 4611686018427387 ∧ cts IdD.cnt (fExecOrder xs) ≤ 4611686018427387 := by
  have hw : ∀ l : List IdD, (cat IdD.c l).wt = 0 := fun l => by
    induction l with
    | nil => rfl
    | cons x r ih => rw [cat_cons, Cs.wt_app, ih]; rfl
  have hs := fParts_small xs
  have hl := flat_small (fParts xs) hs.2
  have hl2 : (fExecOrder xs).length ≤ 18 * 19 := Nat.le_trans hl (Nat.mul_le_mul_left _ hs.1)
  have hc := IdD.cts_le (fExecOrder xs)
  rw [hw]
  omega

set_option maxRecDepth 100000 in
set_option maxHeartbeats 8000000 in
theorem iExecOrder_any (xs : List InstD) (A : Option Addr) (n c : Nat) (w : World) (hn : n = xs.length) (hwt : n + (cat InstD.c xs).wt ≤ 1048576) (h : Rep anyB w (.sl 40 16 n (cat InstD.c xs) .nil) [.slice A n c]) :
    Calls Try.prog 23 #[.slice A n c] w fun e w' => ∃ A2 m c2, e = .returned (.slice A2 m c2) ∧ m = (fExecOrder xs).length ∧ Mine w' w.heap.size (.sl 36 2 m (cat IdD.c (fExecOrder xs)) .nil) [.slice A2 m c2] ∧ Below w.heap.size w w' := by
  have HPA := Lib.hid (fun W h => iParts_any xs A n c W hn hwt h)
  have HR := Lib.hid h; clear h hn hwt
  obtain ⟨h19, h18⟩ := fParts_small xs
  have H18 := Lib.hid h18; clear h18
  obtain ⟨R, hR⟩ : ∃ R, R = fExecOrder xs := ⟨_, rfl⟩
  rw [← hR]
  have HRR := Lib.hid (show R = (fParts xs).flatten from hR); clear hR
  generalize fParts xs = ps at *
  have HB1 := Lib.hid ((Below.refl w.heap.size w).alloc (Nat.le_refl _) (.cells #[] 36))
  have HA1 := Lib.hid (own_nilAt w w.heap.size 36 2 w.heap.size rfl (Nat.le_refl _))
  go_enter Try.func23, Try.ntmps23
  go_wp2_with fail
  refine (HPA.out _ (HR.out.below HB1.out)).mono ?_; rintro e v1 ⟨A2, m, c2, rfl, hm, ⟨F0, hF0, hF1⟩, hb⟩
  have HP := Lib.hid (show POut v1 (w.alloc (.cells #[] 36)).heap.size (.slice A2 m c2) m ps w.heap.size from ⟨F0, hF0, hF1, fun hm => by have h1 := (hF1.in _ hm).1; simp at h1; omega⟩)
  have HM := Lib.hid hm; clear hm
  have HO := Lib.hid (show v1.ownsRow w.heap.size 36 2 (.slice (some ⟨w.heap.size, 0, none⟩) 0 0) 0 (idCells []) from HA1.out.keptBelowJ hb)
  have BW := Lib.hid (HB1.out.trans (hb.mono HB1.out.size))
  have hm19 : m ≤ 19 := by have := HM.out; omega
  clear hb hF0 hF1 HA1 HB1 HPA HR h19
  go_wp2
  go_loopw [3, 10] (fun oo ii wr => ∃ (i q g c' : Nat) (acc : List IdD), i ≤ m ∧ ii = .int .i64 (i : Int) ∧ oo = .slice (some ⟨g, 0, none⟩) q c' ∧ q = acc.length ∧ q ≤ 18 * i ∧ acc ++ (ps.drop i).flatten = R ∧ POut wr (w.alloc (.cells #[] 36)).heap.size (.slice A2 m c2) m ps g ∧ wr.ownsRow w.heap.size 36 2 (.slice (some ⟨g, 0, none⟩) q c') q (idCells acc) ∧ Below w.heap.size w wr) (fun _ ii _ => m - (intOf ii).toNat)
  case atStart => exact ⟨0, 0, _, _, [], Nat.zero_le _, rfl, rfl, rfl, Nat.zero_le _, HRR.out.symm, HP.out, HO.out, BW.out⟩
  case round =>
    obtain ⟨i, q, g, c', acc, hi, rfl, rfl, hq, hqi, hacc, hpo, hown, hbel⟩ := hrel
    clear HP HO BW
    have HQ := Lib.hid hq; clear hq
    have HAC := Lib.hid hacc; clear hacc
    have HP := Lib.hid hpo; clear hpo
    have HO := Lib.hid hown; clear hown
    have BW := Lib.hid hbel; clear hbel
    by_cases hlt : i < m
    · have hix : i < ps.length := by have := HM.out; omega
      obtain ⟨ad, ci, rfl, _, _, hrc, hl, hc⟩ := HP.out.rep.elem partC_width i hix HM.out
      obtain ⟨A1, c1, c3, rfl, hrp, hnil⟩ := Rep.sl.1 (show Rep anyB wr (.sl 36 2 (ps[i]).length (cat IdD.c ps[i]) .nil) ci from hrc)
      obtain rfl := Rep.nil.1 hnil
      have hcell : wr.cell? (ad.add (i * 1)) = some (.slice A1 (ps[i]).length c1) := by have := hc 0 _ rfl; rwa [addr_add0] at this
      rw [Nat.mul_one] at hcell
      have hdr : ps.drop i = ps[i] :: ps.drop (i + 1) := List.drop_eq_getElem_cons hix
      have HAD := Lib.hid (show (acc ++ ps[i]) ++ (ps.drop (i + 1)).flatten = R from by have h0 := HAC.out; rw [hdr, List.flatten_cons, ← List.append_assoc] at h0; exact h0); clear HAC hdr
      have h8 := H18.out _ (List.getElem_mem hix)
      generalize ps[i] = p at *
      obtain ⟨m1, hm1⟩ : ∃ m1, m1 = p.length := ⟨_, rfl⟩
      obtain ⟨cells, hrd, hrcs, _⟩ := Rep.row hrp
      obtain rfl := rep_ids hrcs
      rw [← hm1] at hcell hrd h8
      have HM1 := Lib.hid hm1; clear hm1
      have HRD := Lib.hid hrd; have HRC := Lib.hid hrcs.one; clear hrd hrcs hrp hc hrc hl hnil
      go_wp2_with (first | (at_builtin; go_must (refine wpList_app E_Id _ rfl (.tmp 14) (.tmp 15) rfl w.heap.size _ q (idCells acc) rfl HO.out A1 m1 c1 (idCells p) rfl HRD.out HRC.out (by omega) BW.out.size ?_; intro v9 w9 hown9 hg9 hat9; obtain ⟨g9, c9, rfl⟩ := own_someB hown9 hat9; have hg9 : World.grownBy wr w9 (some g) := hg9; have hat9 : g9 = g ∨ wr.heap.size ≤ g9 := (by rcases hat9 with e | e; (left; injection e); (right; injection e with e; exact Nat.le_of_eq e.symm)); have HP9 := Lib.hid (HP.out.side (g3 := g9) hg9 hat9); have HB9 := Lib.hid (Below.grown BW.out hg9 BW.out.size (fun k hk => by injection hk with hk; have := (HO.out.lt g rfl).1; omega)); have HO9 := Lib.hid (show w9.ownsRow w.heap.size 36 2 (.slice (some ⟨g9, 0, none⟩) (q + m1) c9) (q + m1) (idCells (acc ++ p)) from by rw [idCells_app]; exact hown9); clear hown9 hg9 hat9)) | fail)
      exact ⟨⟨i + 1, q + m1, g9, c9, acc ++ p, by omega, by go_num, rfl, by rw [List.length_append, ← HQ.out, ← HM1.out], by omega, HAD.out, HP9.out, HO9.out, HB9.out⟩, by simp only [intOf]; omega⟩
    · have him : i = m := by omega
      have hRe : R = acc := by have h0 := HAC.out; rw [List.drop_eq_nil_of_le (by have := HM.out; omega)] at h0; rw [← h0]; simp
      clear HAC
      have HRE := Lib.hid hRe; clear hRe
      subst him
      go_wp2
      go_ret
      exact ⟨_, _, _, rfl, by rw [HRE.out]; exact HQ.out, by rw [HRE.out]; exact mine_ids HO.out HQ.out, BW.out⟩

set_option maxRecDepth 100000 in
set_option maxHeartbeats 8000000 in
theorem sExecOrder_any (xs : List InstD) (A : Option Addr) (n c : Nat) (w : World) (hn : n = xs.length) (hwt : n + (cat InstD.c xs).wt ≤ 1048576) (h : Rep anyB w (.sl 40 16 n (cat InstD.c xs) .nil) [.slice A n c]) :
    Calls Try.prog 22 #[.slice A n c] w fun e w' => ∃ A2 m c2, e = .returned (.slice A2 m c2) ∧ m = (fExecOrder xs).length ∧ Mine w' w.heap.size (.sl 36 2 m (cat IdD.c (fExecOrder xs)) .nil) [.slice A2 m c2] ∧ Below w.heap.size w w' := by
  have HPA := Lib.hid (fun W h => sParts_any xs A n c W hn hwt h)
  have HR := Lib.hid h; clear h hn hwt
  obtain ⟨h19, h18⟩ := fParts_small xs
  have H18 := Lib.hid h18; clear h18
  obtain ⟨R, hR⟩ : ∃ R, R = fExecOrder xs := ⟨_, rfl⟩
  rw [← hR]
  have HRR := Lib.hid (show R = (fParts xs).flatten from hR); clear hR
  generalize fParts xs = ps at *
  have HB1 := Lib.hid ((Below.refl w.heap.size w).alloc (Nat.le_refl _) (.cells #[] 36))
  have HA1 := Lib.hid (own_nilAt w w.heap.size 36 2 w.heap.size rfl (Nat.le_refl _))
  go_enter Try.func22, Try.ntmps22
  go_wp2_with fail
  refine (HPA.out _ (HR.out.below HB1.out)).mono ?_; rintro e v1 ⟨A2, m, c2, rfl, hm, ⟨F0, hF0, hF1⟩, hb⟩
  have HP := Lib.hid (show POut v1 (w.alloc (.cells #[] 36)).heap.size (.slice A2 m c2) m ps w.heap.size from ⟨F0, hF0, hF1, fun hm => by have h1 := (hF1.in _ hm).1; simp at h1; omega⟩)
  have HM := Lib.hid hm; clear hm
  have HO := Lib.hid (show v1.ownsRow w.heap.size 36 2 (.slice (some ⟨w.heap.size, 0, none⟩) 0 0) 0 (idCells []) from HA1.out.keptBelowJ hb)
  have BW := Lib.hid (HB1.out.trans (hb.mono HB1.out.size))
  have hm19 : m ≤ 19 := by have := HM.out; omega
  clear hb hF0 hF1 HA1 HB1 HPA HR h19
  go_wp2
  go_loopw [3, 5] (fun oo ii wr => ∃ (i q g c' : Nat) (acc : List IdD), i ≤ m ∧ ii = .int .i64 (i : Int) ∧ oo = .slice (some ⟨g, 0, none⟩) q c' ∧ q = acc.length ∧ q ≤ 18 * i ∧ acc ++ (ps.drop i).flatten = R ∧ POut wr (w.alloc (.cells #[] 36)).heap.size (.slice A2 m c2) m ps g ∧ wr.ownsRow w.heap.size 36 2 (.slice (some ⟨g, 0, none⟩) q c') q (idCells acc) ∧ Below w.heap.size w wr) (fun _ ii _ => m - (intOf ii).toNat)
  case atStart => exact ⟨0, 0, _, _, [], Nat.zero_le _, rfl, rfl, rfl, Nat.zero_le _, HRR.out.symm, HP.out, HO.out, BW.out⟩
  case round =>
    obtain ⟨i, q, g, c', acc, hi, rfl, rfl, hq, hqi, hacc, hpo, hown, hbel⟩ := hrel
    clear HP HO BW
    have HQ := Lib.hid hq; clear hq
    have HAC := Lib.hid hacc; clear hacc
    have HP := Lib.hid hpo; clear hpo
    have HO := Lib.hid hown; clear hown
    have BW := Lib.hid hbel; clear hbel
    by_cases hlt : i < m
    · have hix : i < ps.length := by have := HM.out; omega
      obtain ⟨ad, ci, rfl, _, _, hrc, hl, hc⟩ := HP.out.rep.elem partC_width i hix HM.out
      obtain ⟨A1, c1, c3, rfl, hrp, hnil⟩ := Rep.sl.1 (show Rep anyB wr (.sl 36 2 (ps[i]).length (cat IdD.c ps[i]) .nil) ci from hrc)
      obtain rfl := Rep.nil.1 hnil
      have hcell : wr.cell? (ad.add (i * 1)) = some (.slice A1 (ps[i]).length c1) := by have := hc 0 _ rfl; rwa [addr_add0] at this
      rw [Nat.mul_one] at hcell
      have hdr : ps.drop i = ps[i] :: ps.drop (i + 1) := List.drop_eq_getElem_cons hix
      have HAD := Lib.hid (show (acc ++ ps[i]) ++ (ps.drop (i + 1)).flatten = R from by have h0 := HAC.out; rw [hdr, List.flatten_cons, ← List.append_assoc] at h0; exact h0); clear HAC hdr
      have h8 := H18.out _ (List.getElem_mem hix)
      generalize ps[i] = p at *
      obtain ⟨m1, hm1⟩ : ∃ m1, m1 = p.length := ⟨_, rfl⟩
      obtain ⟨cells, hrd, hrcs, _⟩ := Rep.row hrp
      obtain rfl := rep_ids hrcs
      rw [← hm1] at hcell hrd h8
      have HM1 := Lib.hid hm1; clear hm1
      have HRD := Lib.hid hrd; have HRC := Lib.hid hrcs.one; clear hrd hrcs hrp hc hrc hl hnil
      go_wp2_with (first | (at_builtin; go_must (refine wpList_app E_Id _ rfl (.tmp 15) (.tmp 19) rfl w.heap.size _ q (idCells acc) rfl HO.out A1 m1 c1 (idCells p) rfl HRD.out HRC.out (by omega) BW.out.size ?_; intro v9 w9 hown9 hg9 hat9; obtain ⟨g9, c9, rfl⟩ := own_someB hown9 hat9; have hg9 : World.grownBy wr w9 (some g) := hg9; have hat9 : g9 = g ∨ wr.heap.size ≤ g9 := (by rcases hat9 with e | e; (left; injection e); (right; injection e with e; exact Nat.le_of_eq e.symm)); have HP9 := Lib.hid (HP.out.side (g3 := g9) hg9 hat9); have HB9 := Lib.hid (Below.grown BW.out hg9 BW.out.size (fun k hk => by injection hk with hk; have := (HO.out.lt g rfl).1; omega)); have HO9 := Lib.hid (show w9.ownsRow w.heap.size 36 2 (.slice (some ⟨g9, 0, none⟩) (q + m1) c9) (q + m1) (idCells (acc ++ p)) from by rw [idCells_app]; exact hown9); clear hown9 hg9 hat9)) | fail)
      exact ⟨⟨i + 1, q + m1, g9, c9, acc ++ p, by omega, by go_num, rfl, by rw [List.length_append, ← HQ.out, ← HM1.out], by omega, HAD.out, HP9.out, HO9.out, HB9.out⟩, by simp only [intOf]; omega⟩
    · have him : i = m := by omega
      have hRe : R = acc := by have h0 := HAC.out; rw [List.drop_eq_nil_of_le (by have := HM.out; omega)] at h0; rw [← h0]; simp
      clear HAC
      have HRE := Lib.hid hRe; clear hRe
      subst him
      go_wp2
      go_ret
      exact ⟨_, _, _, rfl, by rw [HRE.out]; exact HQ.out, by rw [HRE.out]; exact mine_ids HO.out HQ.out, BW.out⟩

end Go.Proofs.Ytoffelfcmfpooaa
namespace Go.Proofs.Ytoffelfcmfpooaa
open Go.RowKit
theorem cts_const {α : Type} {f : α → Nat} {m : Nat} (h : ∀ x, f x = m) : ∀ xs : List α, cts f xs = m * xs.length
  | [] => by simp [cts]
  | x :: xs => by rw [cts, h, cts_const h xs, List.length_cons, Nat.mul_succ]; omega







end Go.Proofs.Ytoffelfcmfpooaa
namespace Go.Proofs.Ytoffelfcmfpooaa
open Go.RowKit

theorem CmdD.cntT_le (x : CmdD) : x.cntT ≤ 2 * x.c.wt := by
  have h0 : x.c.wt = (x.set.length + (x.name.length + (x.tag.length + (x.chunks.length + (cat strC x.chunks).wt + 0)))) := rfl
  have h1 : x.cntT = cts (fun _ => 1) x.chunks := rfl
  rw [h1, cts_const (f := fun _ => 1) (m := 1) (fun _ => rfl)]
  omega

end Go.Proofs.Ytoffelfcmfpooaa
