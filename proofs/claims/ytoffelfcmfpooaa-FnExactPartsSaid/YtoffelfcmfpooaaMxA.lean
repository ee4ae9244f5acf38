/-
  No operation lowers the number of questions drawn; Below and grownBy with it. No condition.
  The contracts on the way to impl.InstAt, and that none lowers the number of questions drawn. Conditions: bounds on the sizes.
  Components taken out one after the other, plain: the list of them, and the first that is free each time. No condition.
  The Ids that are reached: the least row that holds an Id's Deps and the Deps of its own. Plain.
  The Deps of an Id that is committed; reached Ids of a row of instances. Plain.
  Components of instances, plain: the reference's (put in one by one), the program's (sorted). No condition.
  Rows of Ids joined: spec.JoinIds. Conditions: bounds on the lengths.
  The Ids that are reached: spec.l12Find, l12Deps, l12Reach, Reach. Conditions: bounds on the sizes.
  slices.SortFunc laid at this program, in plain words (printed by the kit's tool). No condition.
  slices.SortFunc at rows of Ids, with compareIds. Conditions: the row is the call's own.
  slices.SortFunc at a row of Ids of the call's own. Conditions: as named.
  A queue of Ids in a row of the call's own: its first element taken off, one appended. Conditions: as named.
  What slices.Compact leaves of a row of Ids, from its beginning on. Plain.
  A row of Ids of the call's own, while slices.Compact goes over it; the built-in clear at a slice of Ids. Conditions: as named.
  slices.Compact at a row of Ids of the call's own. Conditions: a bound on the length.
  Rows of Ids joined: impl.JoinIds. Conditions: bounds on the lengths.
  The Ids that are reached: impl.Reach. Conditions: bounds on the sizes.
-/
import Derived.Test.YtoffelfcmfpooaaRow
import Derived.Test.YtoffelfcmfpooaaInstAtI
import Derived.Test.YtoffelfcmfpooaaOrd
import Derived.Test.YtoffelfcmfpooaaInstAt
import Derived.Test.YtoffelfcmfpooaaJoin
import Derived.Shelf.SlSortCmp.WholeK
import Derived.Ground.SlsfProg
import Derived.Test.YtoffelfcmfpooaaProg
import Derived.Test.YtoffelfcmfpooaaAttrs
import Derived.ArgAppend
set_option linter.unusedVariables false
set_option linter.unusedSimpArgs false
namespace Go.Proofs.Ytoffelfcmfpooaa
open Go.RowKit
theorem ask_drawn {α : Type} : ∀ (q : Ask α) (w : World), w.drawn ≤ (w.ask q).2.drawn
  | .done a, w => Nat.le_refl _
  | .ask what range k, w => by
    unfold World.ask
    simp only []
    split
    · exact ask_drawn (k 0) w
    · exact Nat.le_trans (Nat.le_succ _) (ask_drawn (k _) { w with drawn := w.drawn + 1 })
theorem sys_drawn (w : World) (c : Sys) : w.drawn ≤ (w.sys c).2.drawn := by
  have h := ask_drawn (Kernel.perform c w.os) w
  unfold World.sys
  split
  · exact Nat.le_refl _
  · rename_i r os w2 _ heq
    rw [heq] at h
    exact h
theorem bindOk {ε α β : Type} {x : Except ε α} {f : α → Except ε β} {y : β} (h : (x >>= f) = .ok y) : ∃ z, x = .ok z ∧ f z = .ok y := by
  cases x with
  | error e => cases h
  | ok z => exact ⟨z, rfl, h⟩
theorem viewStore_drawn {p : Program} {w w' : World} {a k : Addr} {u : TypeId} {v : Value} {b : Bool} {l : List Addr} (h : w.viewStore p a u k v b = .ok (w', l)) : w'.drawn = w.drawn := by
  unfold World.viewStore at h
  simp only [bind, Except.bind, pure, Except.pure, throw, throwThe, MonadExceptOf.throw, MonadExcept.throw] at h
  repeat' (split at h)
  all_goals first
    | (cases h; done)
    | (injection h with h; injection h with h _; rw [← h])
    | (subst_vars; simp at h; done)
theorem farStore_drawn {p : Program} {w w' : World} {a : Addr} {v : Value} {b : Bool} {l : List Addr} (h : w.farStore p a v b = .ok (w', l)) : w'.drawn = w.drawn := by
  unfold World.farStore at h
  split at h
  · split at h
    · rename_i r hr
      injection h with h
      subst h
      exact viewStore_drawn hr
    · cases h
  · cases h
theorem run_drawn {P : Program} {α : Type} : ∀ (e : Sem α) (w : World) {a : α} {w' : World}, e.run P w = .ok a w' → w.drawn ≤ w'.drawn
  | .pure a, w, _, _, h => by
    simp only [Sem.run, Result.ok.injEq] at h
    rw [h.2]; exact Nat.le_refl _
  | .load m ad k, w, _, _, h => by
    simp only [Sem.run] at h
    split at h
    · exact run_drawn (k _) w h
    · split at h
      · exact run_drawn (k _) w h
      · cases h
  | .store m ad v k, w, a, w', h => by
    have key : ∀ w1 : World, w1.drawn = w.drawn → k.run P w1 = .ok a w' → w.drawn ≤ w'.drawn := fun w1 h1 h2 => by
      have := run_drawn k w1 h2
      omega
    cases v <;> simp only [Sem.run] at h
    all_goals first
      | (cases h; done)
      | (split at h
         · split at h
           · cases h
           · exact key (w.setCell ad _) rfl h
         · split at h
           · rename_i hf; exact key _ (farStore_drawn hf) h
           · cases h)
  | .new o k, w, _, _, h => by
    simp only [Sem.run] at h
    exact run_drawn (k _) { w with heap := w.heap.push o } h
  | .shape r k, w, _, _, h => by
    simp only [Sem.run] at h
    exact run_drawn (k _) w h
  | .freeze ad n k, w, _, _, h => by
    simp only [Sem.run] at h
    have := run_drawn k _ h
    unfold World.freeze at this
    split at this <;> exact this
  | .frozen ad k, w, _, _, h => by
    simp only [Sem.run] at h
    exact run_drawn (k _) w h
  | .getObj r k, w, _, _, h => by
    simp only [Sem.run] at h
    split at h
    · cases h
    · exact run_drawn (k _) w h
    · cases h
  | .setObj r o k, w, _, _, h => by
    simp only [Sem.run] at h
    split at h
    · cases h
    · exact run_drawn k { w with heap := w.heap.setIfInBounds r o } h
    · cases h
  | .choose q k, w, _, _, h => by
    simp only [Sem.run] at h
    split at h
    · exact run_drawn (k 0) w h
    · have := run_drawn (k _) { w with drawn := w.drawn + 1 } h
      have h2 : w.drawn + 1 ≤ _ := this
      omega
  | .sys c k, w, _, _, h => by
    simp only [Sem.run] at h
    exact Nat.le_trans (sys_drawn w c) (run_drawn (k _) _ h)
  | .program k, w, _, _, h => by
    simp only [Sem.run] at h
    exact run_drawn (k _) w h
  | .mark m k, w, _, _, h => by
    simp only [Sem.run] at h
    exact run_drawn k w h
  | .halt x, w, _, _, h => by
    simp only [Sem.run] at h
    cases h
end Go.Proofs.Ytoffelfcmfpooaa
namespace Go.Proofs.Ytoffelfcmfpooaa
open Go.RowKit
theorem wp_append_dr {P : Program} (w : World) {w : World} {o : Oper} {a : Act} {K : Act → World → Prop} {Q : Exit → Act → World → Prop} (s x : Operand) (t : TypeId)
    (ho : o.op = .call { callee := .builtin .append, args := #[s, x], argTypes := #[t, t] })
    (base : Nat) (e : TypeId) (i : TypeInfo) (z : Value) (size bytes : Nat) (ht : P.underlying t = some (.slice e)) (hi : P.info? e = some i) (hz : i.zero = some z)
    (hsize : i.size = size) (hby : i.bytes = bytes) (hzs : z.cells.size = size) (hsz : 0 < size)
    (v : Value) (n : Nat) (xs : List Value) (hs : a.eval s = v) (hown : w.ownsRow base e size v n xs)
    (A : Option Addr) (m c : Nat) (news : List Value) (hx : a.eval x = .slice A m c) (hr : Reads w size A m news) (h1 : ∀ u ∈ news, u.oneCell' = true)
    (h63 : n + m ≤ maxLen) (hbytes : (n + m) * bytes ≤ 140737488355328) (hbase : base ≤ w.heap.size)
    (h : ∀ v' w', w'.ownsRow base e size v' (n + m) (xs ++ news) → w.grownBy w' v.ownBlock → (v'.ownBlock = v.ownBlock ∨ v'.ownBlock = some w.heap.size) → w.drawn ≤ w'.drawn → K (a.put o.dst v') w') : o.wp P a w K Q := by
  obtain ⟨v', w', hrun, h2, h3, h4⟩ := run_append_any (P := P) w base t o.type e i z size bytes ht hi hz hsize hby hzs hsz v n xs hown A m c news hr h1 h63 hbytes hbase
  unfold Oper.wp execOp
  simp only [ho, resolve, invoke, builtin, Sem.run_bind, Sem.run_pure, Result.andThen_ok, List.map_toArray, List.map_cons, List.map_nil, hs, hx, hrun]
  exact h v' w' h2 h3 h4 (run_drawn _ _ hrun)

theorem wpList_append_dr {P : Program} (w : World) {ops : Array Oper} {rest : List Oper} {o : Oper} {a : Act} {Q : Exit → Act → World → Prop} (hgd : o.guard = none) (s x : Operand) (t : TypeId)
    (ho : o.op = .call { callee := .builtin .append, args := #[s, x], argTypes := #[t, t] })
    (base : Nat) (e : TypeId) (i : TypeInfo) (z : Value) (size bytes : Nat) (ht : P.underlying t = some (.slice e)) (hi : P.info? e = some i) (hz : i.zero = some z)
    (hsize : i.size = size) (hby : i.bytes = bytes) (hzs : z.cells.size = size) (hsz : 0 < size)
    (v : Value) (n : Nat) (xs : List Value) (hs : a.eval s = v) (hown : w.ownsRow base e size v n xs)
    (A : Option Addr) (m c : Nat) (news : List Value) (hx : a.eval x = .slice A m c) (hr : Reads w size A m news) (h1 : ∀ u ∈ news, u.oneCell' = true)
    (h63 : n + m ≤ maxLen) (hbytes : (n + m) * bytes ≤ 140737488355328) (hbase : base ≤ w.heap.size)
    (h : ∀ v' w', w'.ownsRow base e size v' (n + m) (xs ++ news) → w.grownBy w' v.ownBlock → (v'.ownBlock = v.ownBlock ∨ v'.ownBlock = some w.heap.size) → w.drawn ≤ w'.drawn → wpList P ops Q rest (a.put o.dst v') w') : wpList P ops Q (o :: rest) a w :=
  wpList_plain hgd fun _ hK => wp_append_dr w s x t ho base e i z size bytes ht hi hz hsize hby hzs hsz v n xs hs hown A m c news hx hr h1 h63 hbytes hbase fun v' w' h2 h3 h4 h5 => hK _ _ (h v' w' h2 h3 h4 h5)

theorem wpList_app_dr {P : Program} {T e : TypeId} {z : Value} {size bytes : Nat} (E : Elem P T e z size bytes) (w : World) {ops : Array Oper} {rest : List Oper} {o : Oper} {a : Act} {Q : Exit → Act → World → Prop} (hgd : o.guard = none) (s x : Operand)
    (ho : o.op = .call { callee := .builtin .append, args := #[s, x], argTypes := #[T, T] }) (base : Nat)
    (v : Value) (n : Nat) (xs : List Value) (hs : a.eval s = v) (hown : w.ownsRow base e size v n xs)
    (A : Option Addr) (m c : Nat) (news : List Value) (hx : a.eval x = .slice A m c) (hr : Reads w size A m news) (h1 : ∀ u ∈ news, u.oneCell' = true)
    (hbytes : (n + m) * bytes ≤ 140737488355328) (hbase : base ≤ w.heap.size)
    (h : ∀ v' w', w'.ownsRow base e size v' (n + m) (xs ++ news) → w.grownBy w' v.ownBlock → (v'.ownBlock = v.ownBlock ∨ v'.ownBlock = some w.heap.size) → w.drawn ≤ w'.drawn → wpList P ops Q rest (a.put o.dst v') w') : wpList P ops Q (o :: rest) a w := by
  obtain ⟨i, hi, hz, hs1, hb1⟩ := info_parts E.hi
  refine wpList_append_dr w hgd s x T ho base e i z size bytes E.ht hi hz hs1 hb1 E.hzs E.hsz v n xs hs hown A m c news hx hr h1 ?_ hbytes hbase h
  have := Nat.le_mul_of_pos_right (n + m) E.hb
  simp only [maxLen]
  omega
theorem wpList_store_row_dr {P : Program} (w : World) {ops : Array Oper} {rest : List Oper} {a : Act} {Q : Exit → Act → World → Prop} {t ty : TypeId} {x y : Operand} {ps : String} {af : Array Edge} (g e off : Nat) (cs A M C : List Value) (cur : Array Value) (hx : a.eval x = .pointer (some ⟨g, off, none⟩)) (hy : a.eval y = .agg cs.toArray) (h : Agg P t cs.length)
    (hb : Blk w g e cur) (hc : cur.toList = A ++ (M ++ C)) (hA : A.length = off) (hM : M.length = cs.length) (h1 : ∀ u ∈ cs, u.oneCell' = true)
    (hK : ∀ w', Blk w' g e (A ++ (cs ++ C)).toArray → w.grownBy w' (some g) → w'.drawn = w.drawn → wpList P ops Q rest a w') : wpList P ops Q ({ dst := none, op := Op.store t x y, type := ty, pos := ps, after := af, guard := none } :: rest) a w := by
  refine wpList_plain rfl fun K hK' => ?_
  have hsz : cur.size = A.length + (M.length + C.length) := by
    have := congrArg List.length hc
    simpa using this
  have hs := run_storeCells_at (P := P) g off e cs 0 cur w hb (by omega) h1
  have e1 : cur.toList.take (off + 0) ++ cs ++ cur.toList.drop (off + 0 + cs.length) = A ++ (cs ++ C) := by
    rw [Nat.add_zero, hc, ← hA, ← hM, List.take_left', List.append_assoc, ← List.append_assoc A M C, ← List.length_append, List.drop_left']
    all_goals rfl
  rw [e1] at hs
  have hrun : (Instr.storeAt t (.pointer (some ⟨g, off, none⟩)) (.agg cs.toArray)).run P w = .ok () (w.setRow g (A ++ (cs ++ C)).toArray) := by
    unfold Instr.storeAt Instr.sureAddr storeVar
    simp [Sem.run_bind, Sem.run_pure, Result.andThen, Value.cells, h.size, hs]
  unfold Oper.wp
  simp only [execOp, hx, hy, Sem.run_bind, Sem.run_pure, Result.andThen, hrun]
  exact hK' (a.put none undef) (w.setRow g (A ++ (cs ++ C)).toArray) (hK _ (setRow_blk hb) (setRow_grown _ _ _) rfl)

set_option maxRecDepth 100000 in
set_option maxHeartbeats 1000000 in
theorem copyTexts_dr (xs : List (List UInt8)) (A : Option Addr) (n c : Nat) (w : World) (hn : n ≤ 1048576) (h : Rep anyB w (.sl 9 1 n (cat strC xs) .nil) [.slice A n c]) :
    Calls Try.prog 93 #[.slice A n c] w fun e w' => ∃ A' c', e = .returned (.slice A' n c') ∧ Mine w' w.heap.size (.sl 9 1 n (cat strC xs) .nil) [.slice A' n c'] ∧ Below w.heap.size w w' ∧ w.drawn ≤ w'.drawn := by
  obtain ⟨cells, hrd, hrc, hwd⟩ := h.row
  have HRD := Lib.hid hrd
  have HRC := Lib.hid hrc
  have HWD := Lib.hid hwd
  clear h hrd hrc hwd
  go_enter Try.func93, Try.ntmps93
  go_wp2_with (at_builtin; go_must (refine wpList_app_dr E_str _ rfl _ (.tmp 3) rfl w.heap.size (.slice none 0 0) 0 [] rfl ⟨by simp, .inl ⟨rfl, rfl⟩⟩ _ _ _ cells rfl HRD.out HRC.out.one (by omega) (Nat.le_refl _) ?_; intro vv w2 hown hg hat hdr; have hb2 : Below w.heap.size w w2 := Below.grown (Below.refl _ _) hg (Nat.le_refl _) (fun k hk => by cases hk); rw [Nat.zero_add, List.nil_append] at hown; obtain ⟨Av, cv, rfl, _⟩ := SlR.of_own hown; have HB2 := Lib.hid (And.intro hb2 hdr); have HO := Lib.hid hown; clear hb2 hown hg hat hdr))
  go_ret
  exact ⟨_, _, rfl, ⟨_, nodup_own _, mine_row (cat_flat strC_flat xs) HRC.out HWD.out HO.out rfl⟩, HB2.out⟩
set_option maxRecDepth 100000 in
set_option maxHeartbeats 1000000 in
theorem copyIds_dr (xs : List IdD) (A : Option Addr) (n c : Nat) (w : World) (hn : n ≤ 1048576) (h : Rep anyB w (.sl 36 2 n (cat IdD.c xs) .nil) [.slice A n c]) :
    Calls Try.prog 74 #[.slice A n c] w fun e w' => ∃ A' c', e = .returned (.slice A' n c') ∧ Mine w' w.heap.size (.sl 36 2 n (cat IdD.c xs) .nil) [.slice A' n c'] ∧ Below w.heap.size w w' ∧ w.drawn ≤ w'.drawn := by
  obtain ⟨cells, hrd, hrc, hwd⟩ := h.row
  have HRD := Lib.hid hrd
  have HRC := Lib.hid hrc
  have HWD := Lib.hid hwd
  clear h hrd hrc hwd
  go_enter Try.func74, Try.ntmps74
  go_wp2_with (at_builtin; go_must (refine wpList_app_dr E_Id _ rfl _ (.tmp 3) rfl w.heap.size (.slice none 0 0) 0 [] rfl ⟨by simp, .inl ⟨rfl, rfl⟩⟩ _ _ _ cells rfl HRD.out HRC.out.one (by omega) (Nat.le_refl _) ?_; intro vv w2 hown hg hat hdr; have hb2 : Below w.heap.size w w2 := Below.grown (Below.refl _ _) hg (Nat.le_refl _) (fun k hk => by cases hk); rw [Nat.zero_add, List.nil_append] at hown; obtain ⟨Av, cv, rfl, _⟩ := SlR.of_own hown; have HB2 := Lib.hid (And.intro hb2 hdr); have HO := Lib.hid hown; clear hb2 hown hg hat hdr))
  go_ret
  exact ⟨_, _, rfl, ⟨_, nodup_own _, mine_row (cat_flat IdD.flat xs) HRC.out HWD.out HO.out rfl⟩, HB2.out⟩
set_option maxRecDepth 100000 in
set_option maxHeartbeats 2000000 in
theorem copyCmd_dr (x : CmdD) (cs : List Value) (w : World) (hwt : x.c.wt ≤ 1048576) (h : Rep anyB w x.c cs) :
    Calls Try.prog 73 #[.agg cs.toArray] w fun e w' => ∃ cs', e = .returned (.agg cs'.toArray) ∧ Mine w' w.heap.size x.c cs' ∧ Below w.heap.size w w' ∧ w.drawn ≤ w'.drawn := by
  have hw0 : x.c.wt = x.set.length + (x.name.length + (x.tag.length + (x.chunks.length + (cat strC x.chunks).wt + 0))) := rfl
  obtain ⟨A0, k0, rfl, s0⟩ := CmdD.open h
  obtain ⟨a0, a1, a2, a3, a4, a5, a6, a7⟩ := x
  simp only [] at s0 hw0 ⊢
  have hn1 : a7.length ≤ 1048576 := by omega
  have S0 := Lib.hid s0
  clear h hwt hw0 s0
  go_enter Try.func73, Try.ntmps73
  go_wp2_with fail
  refine (copyTexts_dr a7 _ _ _ _ hn1 (S0.out.below (by repeat' (first | with_reducible exact Below.refl _ _ | with_reducible exact BW.out | with_reducible refine Below.setCell ?_ ?_ _ | with_reducible refine Below.alloc ?_ ?_ _ | with_reducible refine Below.drew ?_ | (simp; done) | (simp; omega) | omega)))).mono ?_; rintro e v1 ⟨A1, k1, rfl, hM, hb, hdr⟩
  have DR := Lib.hid (show w.drawn ≤ v1.drawn from hdr); clear hdr
  have SB := Blk.below (blk2_0 _ _ _ _) hb
  have ZB := Lib.hid (Blk.setOther (Blk.below (blk2_1 _ _ _ _) hb) (a := ⟨w.heap.size, 7, none⟩) (by simp) (.slice A1 a7.length k1))
  have BW := Lib.hid (Below.setCell (show Below w.heap.size w v1 from Below.trans (by repeat' (first | with_reducible exact Below.refl _ _ | with_reducible exact BW.out | with_reducible refine Below.setCell ?_ ?_ _ | with_reducible refine Below.alloc ?_ ?_ _ | with_reducible refine Below.drew ?_ | (simp; done) | (simp; omega) | omega)) (hb.mono (by first | (simp; done) | (simp; omega) | omega))) (p := ⟨w.heap.size, 7, none⟩) (Nat.le_refl _) (.slice A1 a7.length k1))
  have HZ := Lib.hid (show w.heap.size + 1 + 1 ≤ v1.heap.size from Nat.le_trans (by simp) hb.size); clear hb
  have hq0 : v1.cell? ⟨w.heap.size, 7, none⟩ = some (.slice A0 a7.length k0) := blk_cell0 (L := [.int .i64 a0, .int .i64 a1, .int .i64 a2, .string (bs a3), .string (bs a4), .string (bs a5), .int .i64 a6, .slice A0 a7.length k0]) SB 7 rfl
  have hfz : v1.frozen? ⟨w.heap.size, 7, none⟩ = false := SB.frozen 7
  have HS := Lib.hid (blk_put0 SB 7 (.slice A1 a7.length k1)); clear SB
  have HM := Lib.hid hM; clear hM
  go_wp2_with (first
    | ((with_reducible show wpList _ _ _ ({ dst := _, op := Op.load 37 _, type := _, pos := _, after := _, guard := _ } :: _) _ _); refine wpList_load_row _ ⟨w.heap.size, 0, none⟩ rfl [.int .i64 a0, .int .i64 a1, .int .i64 a2, .string (bs a3), .string (bs a4), .string (bs a5), .int .i64 a6, .slice A1 a7.length k1] agg_Cmd rfl (blk_cells HS.out) ?_)
    | ((with_reducible show wpList _ _ _ ({ dst := _, op := Op.store 37 _ _, type := _, pos := _, after := _, guard := _ } :: _) _ _); refine wpList_store_row_dr _ (w.heap.size + 1) 37 0 [.int .i64 a0, .int .i64 a1, .int .i64 a2, .string (bs a3), .string (bs a4), .string (bs a5), .int .i64 a6, .slice A1 a7.length k1] [] [.int .i64 0, .int .i64 0, .int .i64 0, .string ⟨#[]⟩, .string ⟨#[]⟩, .string ⟨#[]⟩, .int .i64 0, .slice none 0 0] [] _ rfl rfl agg_Cmd ZB.out rfl rfl rfl (by simp [Value.oneCell']) ?_; intro v9 hzb hzg hzd)
    | fail)
  obtain ⟨F, hnd, ho⟩ := HM.out
  have ho2 : Own v9 w.heap.size (.sl 9 1 a7.length (cat strC a7) .nil) [.slice A1 a7.length k1] F := ho.keep0 (fun b hb => by
    have h1 := ho.in b hb
    have h3 : w.heap.size + 1 + 1 ≤ b := by have := h1.1; simp at this; omega
    refine ⟨by omega, (hzg.block b (by rw [setCell_size]; exact h1.2) (fun e => by injection e with e; omega)).trans (Below.heap_setCell _ _ _ _ (fun e => by have e2 : b = w.heap.size := e; omega))⟩)
  exact bodyPost_cell rfl ⟨w.heap.size + 1, 0, none⟩ rfl [.int .i64 a0, .int .i64 a1, .int .i64 a2, .string (bs a3), .string (bs a4), .string (bs a5), .int .i64 a6, .slice A1 a7.length k1] agg_Cmd rfl (blk_cells hzb) rfl ⟨_, rfl, ⟨F, hnd, CmdD.shutO (x := ⟨a0, a1, a2, a3, a4, a5, a6, a7⟩) ho2⟩, Below.grown BW.out hzg (by rw [setCell_size]; have := HZ.out; omega) (fun k hk => by injection hk with hk; omega), by rw [hzd]; exact DR.out⟩
set_option maxRecDepth 100000 in
set_option maxHeartbeats 2000000 in
theorem copyInst_dr (x : InstD) (cs : List Value) (w : World) (hwt : x.c.wt ≤ 1048576) (h : Rep anyB w x.c cs) :
    Calls Try.prog 39 #[.agg cs.toArray] w fun e w' => ∃ cs', e = .returned (.agg cs'.toArray) ∧ Mine w' w.heap.size x.c cs' ∧ Below w.heap.size w w' ∧ w.drawn ≤ w'.drawn := by
  have hw0 : x.c.wt = (x.cmd.set.length + (x.cmd.name.length + (x.cmd.tag.length + (x.cmd.chunks.length + (cat strC x.cmd.chunks).wt + (x.deps.length + (cat IdD.c x.deps).wt + 0))))) := rfl
  obtain ⟨A0, k0, A1, k1, rfl, s0, s1⟩ := InstD.open h
  obtain ⟨⟨a0, a1⟩, a2, a3, a4, ⟨c0, c1, c2, c3, c4, c5, c6, c7⟩, a5, a6, a7⟩ := x
  simp only [] at s0 s1 hw0 ⊢
  have hn1 : a6.length ≤ 1048576 := by omega
  have hwc : (CmdD.c ⟨c0, c1, c2, c3, c4, c5, c6, c7⟩).wt ≤ 1048576 := by have e0 : (CmdD.c ⟨c0, c1, c2, c3, c4, c5, c6, c7⟩).wt = c3.length + (c4.length + (c5.length + (c7.length + (cat strC c7).wt + 0))) := rfl; omega
  have SC := Lib.hid (show Rep anyB w (CmdD.c ⟨c0, c1, c2, c3, c4, c5, c6, c7⟩) [.int .i64 c0, .int .i64 c1, .int .i64 c2, .string (bs c3), .string (bs c4), .string (bs c5), .int .i64 c6, .slice A0 c7.length k0] from CmdD.shut s0)
  have S1 := Lib.hid s1
  clear h hwt hw0 s0 s1
  go_enter Try.func39, Try.ntmps39
  go_wp2_with fail
  refine (copyCmd_dr ⟨c0, c1, c2, c3, c4, c5, c6, c7⟩ _ _ hwc (SC.out.below (by repeat' (first | with_reducible exact Below.refl _ _ | with_reducible exact BW.out | with_reducible refine Below.setCell ?_ ?_ _ | with_reducible refine Below.alloc ?_ ?_ _ | with_reducible refine Below.drew ?_ | (simp; done) | (simp; omega) | omega)))).mono ?_; rintro e v1 ⟨cs', rfl, hM, hb, hdr⟩
  have DR := Lib.hid (show w.drawn ≤ v1.drawn from hdr); clear hdr
  obtain ⟨F1, nd1, o1⟩ := hM
  obtain ⟨A2, k2, F2, rfl, rfl, so⟩ := CmdD.openO o1
  simp only [] at so ⊢
  have hF2 : ∀ b ∈ F1, w.heap.size + 1 + 1 ≤ b := fun b hb2 => by have := (so.in b hb2).1; simp at this; omega
  have HF2 := Lib.hid hF2; clear hF2
  have ND1 := Lib.hid nd1; clear nd1 o1
  have SO := Lib.hid so; clear so
  have SB := Lib.hid (Blk.below (blk2_0 _ _ _ _) hb)
  have ZB := Lib.hid (Blk.below (blk2_1 _ _ _ _) hb)
  have BW := Lib.hid (show Below w.heap.size w v1 from Below.trans (by repeat' (first | with_reducible exact Below.refl _ _ | with_reducible exact BW.out | with_reducible refine Below.setCell ?_ ?_ _ | with_reducible refine Below.alloc ?_ ?_ _ | with_reducible refine Below.drew ?_ | (simp; done) | (simp; omega) | omega)) (hb.mono (by first | (simp; done) | (simp; omega) | omega)))
  have HZ := Lib.hid (show w.heap.size + 1 + 1 ≤ v1.heap.size from Nat.le_trans (by simp) hb.size); clear hb
  go_wp2_with (first
    | ((with_reducible show wpList _ _ _ ({ dst := _, op := Op.store 37 _ _, type := _, pos := _, after := _, guard := _ } :: _) _ _); refine wpList_store_row_dr _ w.heap.size 40 5 [.int .i64 c0, .int .i64 c1, .int .i64 c2, .string (bs c3), .string (bs c4), .string (bs c5), .int .i64 c6, .slice A2 c7.length k2] [.int .i64 a0, .int .i64 a1, .int .i64 a2, .int .i64 a3, .int .i64 a4] [.int .i64 c0, .int .i64 c1, .int .i64 c2, .string (bs c3), .string (bs c4), .string (bs c5), .int .i64 c6, .slice A0 c7.length k0] [.int .i64 a5, .slice A1 a6.length k1, .bool a7] _ rfl rfl agg_Cmd SB.out rfl rfl rfl (by simp [Value.oneCell']) ?_; intro v2 hsb hsg hsd; have DR2 := Lib.hid (show w.drawn ≤ v2.drawn from by rw [hsd]; exact DR.out); have SB2 := Lib.hid (show Blk v2 w.heap.size 40 [.int .i64 a0, .int .i64 a1, .int .i64 a2, .int .i64 a3, .int .i64 a4, .int .i64 c0, .int .i64 c1, .int .i64 c2, .string (bs c3), .string (bs c4), .string (bs c5), .int .i64 c6, .slice A2 c7.length k2, .int .i64 a5, .slice A1 a6.length k1, .bool a7].toArray from hsb); have ZB2 := Lib.hid (ZB.out.grown hsg (by omega)); have BW2 := Lib.hid (Below.grown BW.out hsg BW.out.size (fun k hk => by injection hk with hk; omega)); have HZ2 := Lib.hid (Nat.le_trans HZ.out hsg.size); have SO2 := Lib.hid (SO.out.keep0 (base' := w.heap.size) (w' := v2) (fun b hb2 => ⟨by have := HF2.out b hb2; omega, hsg.block b (SO.out.in b hb2).2 (fun e => by injection e with e; have := HF2.out b hb2; omega)⟩)); have hq1 : v2.cell? ⟨w.heap.size, 14, none⟩ = some (.slice A1 a6.length k1) := blk_cell0 (L := [.int .i64 a0, .int .i64 a1, .int .i64 a2, .int .i64 a3, .int .i64 a4, .int .i64 c0, .int .i64 c1, .int .i64 c2, .string (bs c3), .string (bs c4), .string (bs c5), .int .i64 c6, .slice A2 c7.length k2, .int .i64 a5, .slice A1 a6.length k1, .bool a7]) SB2.out 14 rfl; clear hsb hsg hsd)
    | fail)
  refine (copyIds_dr a6 _ _ _ _ hn1 (S1.out.below BW2.out)).mono ?_; rintro e v3 ⟨A3, k3, rfl, hM, hb, hdr⟩
  have DR3 := Lib.hid (show w.drawn ≤ v3.drawn from Nat.le_trans DR2.out hdr); clear hdr
  obtain ⟨F3, nd3, so3⟩ := hM
  have SO3 := Lib.hid so3; clear so3
  have ND3 := Lib.hid nd3; clear nd3
  have SB3 := SB2.out.below hb
  have hq0 : v3.cell? ⟨w.heap.size, 14, none⟩ = some (.slice A1 a6.length k1) := blk_cell0 (L := [.int .i64 a0, .int .i64 a1, .int .i64 a2, .int .i64 a3, .int .i64 a4, .int .i64 c0, .int .i64 c1, .int .i64 c2, .string (bs c3), .string (bs c4), .string (bs c5), .int .i64 c6, .slice A2 c7.length k2, .int .i64 a5, .slice A1 a6.length k1, .bool a7]) SB3 14 rfl
  have hfz : v3.frozen? ⟨w.heap.size, 14, none⟩ = false := SB3.frozen 14
  have HS := Lib.hid (show Blk (v3.setCell ⟨w.heap.size, 14, none⟩ (.slice A3 a6.length k3)) w.heap.size 40 [.int .i64 a0, .int .i64 a1, .int .i64 a2, .int .i64 a3, .int .i64 a4, .int .i64 c0, .int .i64 c1, .int .i64 c2, .string (bs c3), .string (bs c4), .string (bs c5), .int .i64 c6, .slice A2 c7.length k2, .int .i64 a5, .slice A3 a6.length k3, .bool a7].toArray from blk_put0 SB3 14 (.slice A3 a6.length k3)); clear SB3
  have ZB4 := Lib.hid (Blk.setOther (ZB2.out.below hb) (a := ⟨w.heap.size, 14, none⟩) (by simp) (.slice A3 a6.length k3))
  have BW4 := Lib.hid (Below.setCell (BW2.out.trans (hb.mono BW2.out.size)) (p := ⟨w.heap.size, 14, none⟩) (Nat.le_refl _) (.slice A3 a6.length k3))
  have SO4 := Lib.hid (SO2.out.below hb)
  have HIN2 := Lib.hid (fun b (hb2 : b ∈ F1) => (SO2.out.in b hb2).2)
  have HZ3 := Lib.hid (Nat.le_trans HZ2.out hb.size); clear hb hq1
  go_wp2_with (first
    | ((with_reducible show wpList _ _ _ ({ dst := _, op := Op.load 40 _, type := _, pos := _, after := _, guard := _ } :: _) _ _); refine wpList_load_row _ ⟨w.heap.size, 0, none⟩ rfl [.int .i64 a0, .int .i64 a1, .int .i64 a2, .int .i64 a3, .int .i64 a4, .int .i64 c0, .int .i64 c1, .int .i64 c2, .string (bs c3), .string (bs c4), .string (bs c5), .int .i64 c6, .slice A2 c7.length k2, .int .i64 a5, .slice A3 a6.length k3, .bool a7] agg_Inst rfl (blk_cells HS.out) ?_)
    | ((with_reducible show wpList _ _ _ ({ dst := _, op := Op.store 40 _ _, type := _, pos := _, after := _, guard := _ } :: _) _ _); refine wpList_store_row_dr _ (w.heap.size + 1) 40 0 [.int .i64 a0, .int .i64 a1, .int .i64 a2, .int .i64 a3, .int .i64 a4, .int .i64 c0, .int .i64 c1, .int .i64 c2, .string (bs c3), .string (bs c4), .string (bs c5), .int .i64 c6, .slice A2 c7.length k2, .int .i64 a5, .slice A3 a6.length k3, .bool a7] [] [.int .i64 0, .int .i64 0, .int .i64 0, .int .i64 0, .int .i64 0, .int .i64 0, .int .i64 0, .int .i64 0, .string ⟨#[]⟩, .string ⟨#[]⟩, .string ⟨#[]⟩, .int .i64 0, .slice none 0 0, .int .i64 0, .slice none 0 0, .bool false] [] _ rfl rfl agg_Inst ZB4.out rfl rfl rfl (by simp [Value.oneCell']) ?_; intro v9 hzb hzg hzd)
    | fail)
  have keepB : ∀ b, w.heap.size + 1 + 1 ≤ b → b < v3.heap.size → v9.heap[b]? = v3.heap[b]? := fun b h1 h2 =>
    (hzg.block b (by rw [setCell_size]; exact h2) (fun e => by injection e with e; omega)).trans (Below.heap_setCell _ _ _ _ (fun e => by have e2 : b = w.heap.size := e; omega))
  have oa := SO4.out.keep0 (base' := w.heap.size) (w' := v9) (fun b hb2 => ⟨by have := HF2.out b hb2; omega, keepB b (HF2.out b hb2) (SO4.out.in b hb2).2⟩)
  have ob := SO3.out.keep0 (base' := w.heap.size) (w' := v9) (fun b hb2 => by
    have h1 := SO3.out.in b hb2
    have h2 := HZ2.out
    exact ⟨by omega, keepB b (by omega) h1.2⟩)
  refine bodyPost_cell rfl ⟨w.heap.size + 1, 0, none⟩ rfl [.int .i64 a0, .int .i64 a1, .int .i64 a2, .int .i64 a3, .int .i64 a4, .int .i64 c0, .int .i64 c1, .int .i64 c2, .string (bs c3), .string (bs c4), .string (bs c5), .int .i64 c6, .slice A2 c7.length k2, .int .i64 a5, .slice A3 a6.length k3, .bool a7] agg_Inst rfl (blk_cells hzb) rfl ⟨_, rfl, ⟨F1 ++ F3, nodup_app (m := v2.heap.size) ND1.out ND3.out HIN2.out (fun b hb2 => (SO3.out.in b hb2).1), InstD.shutO (x := ⟨⟨a0, a1⟩, a2, a3, a4, ⟨c0, c1, c2, c3, c4, c5, c6, c7⟩, a5, a6, a7⟩) oa ob⟩, ?_, by rw [hzd]; exact DR3.out⟩
  exact Below.grown BW4.out hzg (by rw [setCell_size]; have := HZ3.out; omega) (fun k hk => by injection hk with hk; omega)
set_option maxRecDepth 100000 in
set_option maxHeartbeats 2000000 in
theorem instAtFn_dr (y : InstD) (ci : List Value) (g : Nat) (xr xs' : Int) (w : World) (h : Rep anyB w y.c ci) (hb : Blk w g 36 [.int .i64 xr, .int .i64 xs'].toArray) :
    Calls Try.prog 72 #[.agg ci.toArray, .pointer (some ⟨g, 0, none⟩)] w fun e w' => e = .returned (.bool (decide (y.id = ⟨xr, xs'⟩))) ∧ Below w.heap.size w w' ∧ w.drawn ≤ w'.drawn := by
  obtain ⟨A0, k0, A1, k1, rfl, _, _⟩ := InstD.open h
  obtain ⟨⟨yr, ys⟩, a2, a3, a4, ⟨c0, c1, c2, c3, c4, c5, c6, c7⟩, a5, a6, a7⟩ := y
  simp only []
  clear h
  have hg := hb.lt
  have SB := Lib.hid (hb.alloc (.cells #[.int .i64 yr, .int .i64 ys, .int .i64 a2, .int .i64 a3, .int .i64 a4, .int .i64 c0, .int .i64 c1, .int .i64 c2, .string (bs c3), .string (bs c4), .string (bs c5), .int .i64 c6, .slice A0 c7.length k0, .int .i64 a5, .slice A1 a6.length k1, .bool a7] 40))
  have hs0 : World.cell? w ⟨g, 0, none⟩ = some (.int .i64 xr) := blk_cell0 (L := [.int .i64 xr, .int .i64 xs']) hb 0 rfl
  have hs1 : World.cell? w ⟨g, 1, none⟩ = some (.int .i64 xs') := blk_cell0 (L := [.int .i64 xr, .int .i64 xs']) hb 1 rfl
  have HD := Lib.hid (show decide ((⟨yr, ys⟩ : IdD) = ⟨xr, xs'⟩) = ((yr == xr) && (ys == xs')) by rw [Bool.eq_iff_iff]; simp)
  go_enter Try.func72, Try.ntmps72
  go_wp2_with (first
    | ((with_reducible show wpList _ _ _ ({ dst := _, op := Op.load 36 _, type := _, pos := _, after := _, guard := _ } :: _) _ _); refine wpList_load_row _ ⟨g, 0, none⟩ rfl [.int .i64 xr, .int .i64 xs'] agg_Id rfl (blk_cells SB.out) ?_)
    | fail)
  all_goals (go_ret; exact ⟨rfl, (by repeat' (first | with_reducible exact Below.refl _ _ | with_reducible exact BW.out | with_reducible refine Below.setCell ?_ ?_ _ | with_reducible refine Below.alloc ?_ ?_ _ | with_reducible refine Below.drew ?_ | (simp; done) | (simp; omega) | omega)), Nat.le_refl _⟩)
set_option maxRecDepth 100000 in
set_option maxHeartbeats 2000000 in
theorem indexFn_dr (xs : List InstD) (A : Option Addr) (n c g : Nat) (xr xs' : Int) (w : World) (hn : n = xs.length) (hwt : n ≤ 1048576) (h : Rep anyB w (.sl 40 16 n (cat InstD.c xs) .nil) [.slice A n c]) (hb : Blk w g 36 [.int .i64 xr, .int .i64 xs'].toArray) :
    Calls Try.prog 71 #[.slice A n c, .func (.func 72) #[] #[.pointer (some ⟨g, 0, none⟩)]] w fun e w' => ∃ q : Int, e = .returned (.int .i64 q) ∧ ((∃ (j : Nat) (hj : j < xs.length), q = (j : Int) ∧ xs[j].id = ⟨xr, xs'⟩ ∧ ∀ i (hi : i < xs.length), i < j → ¬ xs[i].id = ⟨xr, xs'⟩) ∨ (q = -1 ∧ ∀ i (hi : i < xs.length), ¬ xs[i].id = ⟨xr, xs'⟩)) ∧ Below w.heap.size w w' ∧ w.drawn ≤ w'.drawn := by
  have HN := Lib.hid hn; clear hn
  have HR := Lib.hid h; clear h
  have SB := Lib.hid hb; clear hb
  go_enter Try.func71, Try.ntmps71
  go_wp2
  go_loopw [8] (fun ii wr => ∃ j : Nat, j ≤ n ∧ ii = .int .i64 (j : Int) ∧ (∀ i (hi : i < xs.length), i < j → ¬ xs[i].id = ⟨xr, xs'⟩) ∧ Blk wr g 36 [.int .i64 xr, .int .i64 xs'].toArray ∧ Below w.heap.size w wr ∧ w.drawn ≤ wr.drawn) (fun ii _ => n - (intOf ii).toNat)
  case atStart => exact ⟨0, Nat.zero_le _, rfl, fun i hi h => absurd h (Nat.not_lt_zero _), SB.out, Below.refl _ _, Nat.le_refl _⟩
  case round =>
    obtain ⟨j, hj, rfl, hall, hsb, hbel, hdl⟩ := hrel
    have DR := Lib.hid hdl; clear hdl
    clear SB
    have SB := Lib.hid hsb; clear hsb
    have HA := Lib.hid hall; clear hall
    have BW := Lib.hid hbel; clear hbel
    by_cases hlt : j < n
    · have hjx : j < xs.length := by have := HN.out; omega
      obtain ⟨ad, ci, rfl, _, _, hrc, hl, hc⟩ := (HR.out.below BW.out).elem InstD.width j hjx HN.out
      have hst : ¬ xs[j].id = ⟨xr, xs'⟩ → ∀ i (hi : i < xs.length), i < j + 1 → ¬ xs[i].id = ⟨xr, xs'⟩ := fun hne i hi hij => by
        by_cases he : i = j
        · subst he; exact hne
        · exact HA.out i hi (by omega)
      have HST := Lib.hid hst; clear hst
      have hyes : xs[j].id = ⟨xr, xs'⟩ → ∃ (j' : Nat) (hj' : j' < xs.length), ((j : Int)) = (j' : Int) ∧ xs[j'].id = ⟨xr, xs'⟩ ∧ ∀ i (hi : i < xs.length), i < j' → ¬ xs[i].id = ⟨xr, xs'⟩ := fun he => ⟨j, hjx, rfl, he, HA.out⟩
      have HY := Lib.hid hyes; clear hyes
      have HL := Lib.hid hl; clear hl
      have HC := Lib.hid hc; clear hc
      have HRC := Lib.hid hrc; clear hrc
      generalize xs[j] = y at *
      go_wp2_with (first | ((with_reducible show wpList _ _ _ ({ dst := _, op := Op.load 40 _, type := _, pos := _, after := _, guard := _ } :: _) _ _); refine wpList_load_row _ (ad.add (j * 16)) rfl ci agg_Inst HL.out HC.out ?_) | fail)
      refine (instAtFn_dr y ci g xr xs' _ HRC.out SB.out).mono ?_; rintro e v1 ⟨rfl, hb, hd1⟩
      have X := Lib.hid (Nat.le_trans DR.out hd1); clear DR hd1
      have DR := Lib.hid X.out; clear X
      have X := Lib.hid (SB.out.below hb); clear SB
      have SB := Lib.hid X.out; clear X
      have X := Lib.hid (show Below w.heap.size w v1 from BW.out.trans (hb.mono BW.out.size)); clear BW hb
      have BW := Lib.hid X.out; clear X
      cases hd : decide (y.id = ⟨xr, xs'⟩)
      case true =>
        have HY2 := Lib.hid (HY.out (of_decide_eq_true hd)); clear hd
        go_wp2
        go_ret
        exact ⟨_, rfl, .inl HY2.out, BW.out, DR.out⟩
      case false =>
        have HS := Lib.hid (HST.out (of_decide_eq_false hd)); clear hd
        go_wp2
        exact ⟨⟨j + 1, by omega, by go_num, HS.out, SB.out, BW.out, DR.out⟩, by simp only [intOf]; omega⟩
    · have hjn : j = n := by omega
      subst hjn
      have HF := Lib.hid (fun i (hi : i < xs.length) => HA.out i hi (by have := HN.out; omega))
      go_wp2
      go_ret
      exact ⟨_, rfl, .inr ⟨rfl, HF.out⟩, BW.out, DR.out⟩
set_option maxRecDepth 100000 in
set_option maxHeartbeats 2000000 in
theorem instAtI_dr (xs : List InstD) (x : IdD) (A : Option Addr) (n c : Nat) (cs : List Value) (w : World) (hn : n = xs.length) (hwt : n ≤ 1048576) (h : Rep anyB w (.sl 40 16 n (cat InstD.c xs) .nil) [.slice A n c]) (h' : Rep anyB w x.c cs) :
    Calls Try.prog 38 #[.slice A n c, .agg cs.toArray] w fun e w' => ∃ q : Int, e = .returned (.int .i64 q) ∧ ((∃ (j : Nat) (hj : j < xs.length), q = (j : Int) ∧ xs[j].id = x ∧ ∀ i (hi : i < xs.length), i < j → ¬ xs[i].id = x) ∨ (q = -1 ∧ ∀ i (hi : i < xs.length), ¬ xs[i].id = x)) ∧ Below w.heap.size w w' ∧ w.drawn ≤ w'.drawn := by
  obtain rfl := IdD.open h'
  clear h'
  obtain ⟨xr, xs'⟩ := x
  simp only []
  have HN := Lib.hid hn; clear hn
  have HR := Lib.hid h; clear h
  have hmf : ∀ (fn : Fn) (first cap : Array Value) (w : World), (Instr.makeFunc fn first cap).run Try.prog w = .ok (.func fn first cap) w := fun _ _ _ _ => rfl
  go_enter Try.func38, Try.ntmps38
  go_wp2_with fail
  refine (indexFn_dr xs A n c w.heap.size xr xs' _ HN.out hwt (HR.out.below (by repeat' (first | with_reducible exact Below.refl _ _ | with_reducible exact BW.out | with_reducible refine Below.setCell ?_ ?_ _ | with_reducible refine Below.alloc ?_ ?_ _ | with_reducible refine Below.drew ?_ | (simp; done) | (simp; omega) | omega))) (blk_new _ _ _)).mono ?_; rintro e v1 ⟨q, rfl, hq, hb, hdr⟩
  have DR := Lib.hid (show w.drawn ≤ v1.drawn from hdr); clear hdr
  have HQ := Lib.hid hq; clear hq
  have BW := Lib.hid (show Below w.heap.size w v1 from Below.trans (by repeat' (first | with_reducible exact Below.refl _ _ | with_reducible exact BW.out | with_reducible refine Below.setCell ?_ ?_ _ | with_reducible refine Below.alloc ?_ ?_ _ | with_reducible refine Below.drew ?_ | (simp; done) | (simp; omega) | omega)) (hb.mono (by first | (simp; done) | (simp; omega) | omega))); clear hb
  clear hmf
  go_wp2
  go_ret
  exact ⟨_, rfl, HQ.out, BW.out, DR.out⟩
set_option maxRecDepth 100000 in
set_option maxHeartbeats 2000000 in
theorem iInstAt_dr (xs : List InstD) (x : IdD) (A : Option Addr) (n c : Nat) (cs : List Value) (w : World) (hn : n = xs.length) (hwt : n + (cat InstD.c xs).wt ≤ 1048576) (_ : x.c.wt ≤ 1048576) (h : Rep anyB w (.sl 40 16 n (cat InstD.c xs) .nil) [.slice A n c]) (h' : Rep anyB w x.c cs) :
    Calls Try.prog 83 #[.slice A n c, .agg cs.toArray] w fun e w' => ∃ cs', e = .returned (.agg cs'.toArray) ∧ Mine w' w.heap.size (fInstAt xs x).c cs' ∧ Below w.heap.size w w' ∧ w.drawn ≤ w'.drawn := by
  have HN := Lib.hid hn; clear hn
  have HR := Lib.hid h; clear h
  have HI := Lib.hid h'
  obtain rfl := IdD.open h'
  clear h'
  obtain ⟨R, hR⟩ : ∃ R, R = fInstAt xs x := ⟨_, rfl⟩
  rw [← hR]
  have hno := @instAt_no xs x
  rw [← hR] at hno
  have hye := fun j hj h he => (hR.trans (@instAt_yes xs x j hj h he))
  have HNO := Lib.hid hno; clear hno
  have HYE := Lib.hid hye; clear hye hR
  obtain ⟨xr, xs'⟩ := x
  simp only [] at HNO HYE HI ⊢
  have hnb : n ≤ 1048576 := by omega
  have HWT := Lib.hid hwt; clear hwt
  go_enter Try.func83, Try.ntmps83
  go_wp2_with fail
  refine (instAtI_dr xs ⟨xr, xs'⟩ A n c _ _ HN.out hnb (HR.out.below (by repeat' (first | with_reducible exact Below.refl _ _ | with_reducible exact BW.out | with_reducible refine Below.setCell ?_ ?_ _ | with_reducible refine Below.alloc ?_ ?_ _ | with_reducible refine Below.drew ?_ | (simp; done) | (simp; omega) | omega))) (HI.out.below (by repeat' (first | with_reducible exact Below.refl _ _ | with_reducible exact BW.out | with_reducible refine Below.setCell ?_ ?_ _ | with_reducible refine Below.alloc ?_ ?_ _ | with_reducible refine Below.drew ?_ | (simp; done) | (simp; omega) | omega)))).mono ?_; rintro e v1 ⟨q, rfl, hq, hb, hdr⟩
  have DR := Lib.hid (show w.drawn ≤ v1.drawn from hdr); clear hdr
  have SB := Lib.hid (Blk.below (blk2_0 _ _ _ _) hb)
  have ZB := Lib.hid (Blk.below (blk2_1 _ _ _ _) hb)
  have BW := Lib.hid (show Below w.heap.size w v1 from Below.trans (by repeat' (first | with_reducible exact Below.refl _ _ | with_reducible exact BW.out | with_reducible refine Below.setCell ?_ ?_ _ | with_reducible refine Below.alloc ?_ ?_ _ | with_reducible refine Below.drew ?_ | (simp; done) | (simp; omega) | omega)) (hb.mono (by first | (simp; done) | (simp; omega) | omega))); clear hb
  rcases hq with ⟨j, hjx, rfl, he, hall⟩ | ⟨rfl, hall⟩
  · have hRy := HYE.out j hjx hall he
    clear hall he HNO HYE
    obtain ⟨ad, ci, rfl, _, _, hrc, hl, hc⟩ := (HR.out.below BW.out).elem InstD.width j hjx HN.out
    have hwx : (xs[j].c).wt ≤ 1048576 := by have := cat_wt_le (f := InstD.c) (List.getElem_mem hjx); have := HWT.out; omega
    have hjn : j < n := by have := HN.out; omega
    rw [← hRy] at hwx hrc
    clear hRy
    have HL := Lib.hid hl; clear hl
    have HC := Lib.hid hc; clear hc
    have HRC := Lib.hid hrc; clear hrc
    go_wp2_with (first | ((with_reducible show wpList _ _ _ ({ dst := _, op := Op.load 40 _, type := _, pos := _, after := _, guard := _ } :: _) _ _); refine wpList_load_row _ (ad.add (j * 16)) rfl ci agg_Inst HL.out HC.out ?_) | fail)
    refine (copyInst_dr _ ci _ hwx HRC.out).mono ?_; rintro e v2 ⟨cs', rfl, hM, hb, hdr⟩
    have DR2 := Lib.hid (show w.drawn ≤ v2.drawn from Nat.le_trans DR.out hdr); clear hdr
    have HL2 := Lib.hid (show cs'.length = 16 from hM.rep.length.trans (InstD.width _))
    have HM := Lib.hid hM; clear hM
    have ZB1 := Lib.hid (ZB.out.below hb)
    have BW1 := Lib.hid (BW.out.trans (hb.mono BW.out.size))
    have HZ := Lib.hid (show w.heap.size + 1 < v1.heap.size from ZB.out.lt); clear hb
    go_wp2_with (first | ((with_reducible show wpList _ _ _ ({ dst := _, op := Op.store 40 _ _, type := _, pos := _, after := _, guard := _ } :: _) _ _); refine wpList_store_row_dr _ (w.heap.size + 1) 40 0 cs' [] [.int .i64 0, .int .i64 0, .int .i64 0, .int .i64 0, .int .i64 0, .int .i64 0, .int .i64 0, .int .i64 0, .string ⟨#[]⟩, .string ⟨#[]⟩, .string ⟨#[]⟩, .int .i64 0, .slice none 0 0, .int .i64 0, .slice none 0 0, .bool false] [] _ rfl rfl (HL2.out ▸ agg_Inst) ZB1.out rfl rfl HL2.out.symm HM.out.rep.one ?_; intro v9 hzg0 hzg hzd) | fail)
    have hzb : Blk v9 (w.heap.size + 1) 40 cs'.toArray := by simpa using hzg0
    obtain ⟨F, hnd, ho⟩ := HM.out
    have ho2 := ho.keep0 (base' := w.heap.size) (w' := v9) (fun b hb => by
      have h1 := ho.in b hb
      have h3 := HZ.out
      exact ⟨by omega, hzg.block b h1.2 (fun e => by injection e with e; omega)⟩)
    exact bodyPost_cell rfl ⟨w.heap.size + 1, 0, none⟩ rfl cs' agg_Inst HL2.out (blk_cells hzb) rfl ⟨_, rfl, ⟨F, hnd, ho2⟩, Below.grown BW1.out hzg BW1.out.size (fun k hk => by injection hk with hk; omega), by rw [hzd]; exact DR2.out⟩
  · have hRn := HNO.out hall
    subst hRn
    clear hall HNO HYE
    go_wp2_with (first
      | ((with_reducible show wpList _ _ _ ({ dst := _, op := Op.load 36 _, type := _, pos := _, after := _, guard := _ } :: _) _ _); refine wpList_load_row _ ⟨w.heap.size, 0, none⟩ rfl [.int .i64 xr, .int .i64 xs'] agg_Id rfl (blk_cells SB.out) ?_)
      | ((with_reducible show wpList _ _ _ ({ dst := _, op := Op.store 40 _ _, type := _, pos := _, after := _, guard := _ } :: _) _ _); refine wpList_store_row_dr _ (w.heap.size + 1) 40 0 [.int .i64 xr, .int .i64 xs', .int .i64 (-1), .int .i64 (-1), .int .i64 0, .int .i64 0, .int .i64 0, .int .i64 0, .string (bs []), .string (bs []), .string (bs []), .int .i64 0, .slice none 0 0, .int .i64 0, .slice none 0 0, .bool false] [] [.int .i64 0, .int .i64 0, .int .i64 0, .int .i64 0, .int .i64 0, .int .i64 0, .int .i64 0, .int .i64 0, .string ⟨#[]⟩, .string ⟨#[]⟩, .string ⟨#[]⟩, .int .i64 0, .slice none 0 0, .int .i64 0, .slice none 0 0, .bool false] [] _ rfl rfl agg_Inst ZB.out rfl rfl rfl (by simp [Value.oneCell']) ?_; intro v9 hzb hzg hzd)
      | fail)
    exact bodyPost_cell rfl ⟨w.heap.size + 1, 0, none⟩ rfl [.int .i64 xr, .int .i64 xs', .int .i64 (-1), .int .i64 (-1), .int .i64 0, .int .i64 0, .int .i64 0, .int .i64 0, .string (bs []), .string (bs []), .string (bs []), .int .i64 0, .slice none 0 0, .int .i64 0, .slice none 0 0, .bool false] agg_Inst rfl (blk_cells hzb) rfl ⟨_, rfl, newInst_mine _ _ _ _, Below.grown BW.out hzg BW.out.size (fun k hk => by injection hk with hk; omega), by rw [hzd]; exact DR.out⟩

end Go.Proofs.Ytoffelfcmfpooaa
namespace Go.Proofs.Ytoffelfcmfpooaa

section
variable (P : IdD → List IdD) (ready : IdD → Bool) (may : List IdD → List IdD → Bool)
/-- the next Id whose component is free -/
def nextF (ids told : List IdD) : Option IdD := ids.find? fun x => !decide (x ∈ told) && (ready x && may (P x) told)
def specF (ids : List IdD) : Nat → List IdD → List (List IdD)
  | 0, _ => []
  | n + 1, told => match nextF P ready may ids told with
    | none => []
    | some x => P x :: specF ids n (told ++ P x)
/-- the components' first Ids -/
def repsF : List IdD → List IdD → List IdD
  | done, [] => done
  | done, x :: r => repsF (if (done.any fun q => decide (x ∈ P q)) = false ∧ ready x = true then done ++ [x] else done) r
def implF : Nat → List (List IdD) → List IdD → List (List IdD)
  | 0, _, _ => []
  | n + 1, left, told => match left.findIdx? (fun p => may p told) with
    | none => []
    | some k => left.getD k [] :: implF n (left.eraseIdx k) (told ++ left.getD k [])
variable {P ready may}
structure PartLaws (P : IdD → List IdD) (ready : IdD → Bool) : Prop where
  self : ∀ x, ready x = true → x ∈ P x
  same : ∀ x y, ready x = true → y ∈ P x → ready y = true ∧ P y = P x
/-- how the fold stands: `pre` is behind it -/
structure RepInv (P : IdD → List IdD) (ready : IdD → Bool) (pre reps : List IdD) : Prop where
  sub : reps.Sublist pre
  rdy : ∀ r ∈ reps, ready r = true
  cov : ∀ (p1 : List IdD) (y : IdD) (p2 : List IdD), pre = p1 ++ y :: p2 → ready y = true → ∃ r ∈ reps, r ∈ p1 ++ [y] ∧ y ∈ P r
  apart : reps.Pairwise fun a b => b ∉ P a
theorem RepInv.nil : RepInv P ready [] [] := ⟨.slnil, by simp, fun p1 y p2 h => by simp at h, .nil⟩
theorem RepInv.step (L : PartLaws P ready) {pre reps : List IdD} (h : RepInv P ready pre reps) (x : IdD) :
    RepInv P ready (pre ++ [x]) (if (reps.any fun q => decide (x ∈ P q)) = false ∧ ready x = true then reps ++ [x] else reps) := by
  have cut : ∀ (p1 : List IdD) (y : IdD) (p2 : List IdD), pre ++ [x] = p1 ++ y :: p2 → (p2 = [] ∧ p1 = pre ∧ y = x) ∨ ∃ p3, pre = p1 ++ y :: p3 := fun p1 y p2 he => by
    rcases p2.eq_nil_or_concat with rfl | ⟨p3, z, rfl⟩
    · have := List.append_inj' he rfl
      exact .inl ⟨rfl, this.1.symm, by have := this.2; injection this with h1; exact h1.symm⟩
    · have he2 : pre ++ [x] = (p1 ++ y :: p3) ++ [z] := by rw [he]; simp
      exact .inr ⟨p3, (List.append_inj' he2 rfl).1⟩
  split
  · rename_i hc
    have hno : ∀ r ∈ reps, x ∉ P r := fun r hr hx => by
      have h1 := List.any_eq_false.1 hc.1 r hr
      simp [hx] at h1
    refine ⟨h.sub.append (List.Sublist.refl _), fun r hr => ?_, fun p1 y p2 he hyr => ?_, ?_⟩
    · rcases List.mem_append.1 hr with hr | hr
      · exact h.rdy r hr
      · rw [List.mem_singleton.1 hr]; exact hc.2
    · rcases cut p1 y p2 he with ⟨_, _, rfl⟩ | ⟨p3, he⟩
      · exact ⟨y, List.mem_append_right _ (by simp), by simp, L.self y hc.2⟩
      · obtain ⟨r, hr, h1, h2⟩ := h.cov p1 y p3 he hyr
        exact ⟨r, List.mem_append_left _ hr, h1, h2⟩
    · rw [List.pairwise_append]
      exact ⟨h.apart, by simp, fun a ha b hb => by rw [List.mem_singleton.1 hb]; exact hno a ha⟩
  · rename_i hc
    refine ⟨h.sub.trans (List.sublist_append_left _ _), h.rdy, fun p1 y p2 he hyr => ?_, h.apart⟩
    rcases cut p1 y p2 he with ⟨_, rfl, rfl⟩ | ⟨p3, he⟩
    · cases hb : (reps.any fun q => decide (y ∈ P q)) with
      | false => exact absurd ⟨hb, hyr⟩ hc
      | true =>
        obtain ⟨r, hr, hp⟩ := List.any_eq_true.1 hb
        exact ⟨r, hr, List.mem_append_left _ (h.sub.subset hr), by simpa using hp⟩
    · exact h.cov p1 y p3 he hyr
theorem RepInv.all (L : PartLaws P ready) : ∀ (ids : List IdD) {pre reps : List IdD}, RepInv P ready pre reps → RepInv P ready (pre ++ ids) (repsF P ready reps ids)
  | [], pre, reps, h => by rw [List.append_nil]; exact h
  | x :: r, pre, reps, h => by
    have := RepInv.all L r (h.step L x)
    rw [List.append_assoc] at this
    exact this
/-- what is told: components whole -/
def Told (P : IdD → List IdD) (ready : IdD → Bool) (told : List IdD) : Prop := ∀ z ∈ told, ready z = true ∧ ∀ y ∈ P z, y ∈ told
theorem Told.nil : Told P ready [] := by simp [Told]
theorem Told.add (L : PartLaws P ready) {told : List IdD} (h : Told P ready told) {x : IdD} (hx : ready x = true) : Told P ready (told ++ P x) := fun z hz => by
  rcases List.mem_append.1 hz with hz | hz
  · exact ⟨(h z hz).1, fun y hy => List.mem_append_left _ ((h z hz).2 y hy)⟩
  · obtain ⟨h1, h2⟩ := L.same x z hx hz
    exact ⟨h1, fun y hy => List.mem_append_right _ (by rw [← h2]; exact hy)⟩
theorem next_some {ids told : List IdD} {x : IdD} (h : nextF P ready may ids told = some x) : x ∉ told ∧ ready x = true ∧ may (P x) told = true ∧ ∃ a b, ids = a ++ x :: b ∧ ∀ z ∈ a, ¬ (z ∉ told ∧ ready z = true ∧ may (P z) told = true) := by
  obtain ⟨h1, a, b, h2, h3⟩ := List.find?_eq_some_iff_append.1 h
  simp only [Bool.and_eq_true, Bool.not_eq_true', decide_eq_false_iff_not] at h1
  refine ⟨h1.1, h1.2.1, h1.2.2, a, b, h2, fun z hz hh => ?_⟩
  have := h3 z hz
  simp [hh.1, hh.2.1, hh.2.2] at this
theorem next_none {ids told : List IdD} (h : nextF P ready may ids told = none) : ∀ z ∈ ids, z ∉ told → ready z = true → may (P z) told = false := fun z hz h1 h2 => by
  have := List.find?_eq_none.1 h z hz
  simpa [h1, h2] using this
theorem impl_spec (L : PartLaws P ready) {ids reps : List IdD} (hn : ids.Nodup) (I : RepInv P ready ids reps) : ∀ (n : Nat) (told : List IdD), Told P ready told →
    implF may n ((reps.filter fun r => !decide (r ∈ told)).map P) told = specF P ready may ids n told
  | 0, _, _ => rfl
  | n + 1, told, hT => by
    rw [implF, specF]
    cases hx : nextF P ready may ids told with
    | none =>
      have hno := next_none hx
      have : (((reps.filter fun r => !decide (r ∈ told)).map P).findIdx? fun p => may p told) = none := by
        rw [List.findIdx?_eq_none_iff]
        intro p hp
        obtain ⟨r, hr, rfl⟩ := List.mem_map.1 hp
        obtain ⟨hr1, hr2⟩ := List.mem_filter.1 hr
        exact hno r (I.sub.subset hr1) (by simpa using hr2) (I.rdy r hr1)
      rw [this]
    | some x =>
      obtain ⟨hxt, hxr, hxm, a, b, hab, hfirst⟩ := next_some hx
      obtain ⟨r, hr, hrp, hxP⟩ := I.cov a x b hab hxr
      obtain ⟨_, hPP⟩ := L.same r x (I.rdy r hr) hxP
      have hrt : r ∉ told := fun h => hxt ((hT r h).2 x hxP)
      have hrx : r = x := by
        rcases List.mem_append.1 hrp with h | h
        · exact absurd ⟨hrt, I.rdy r hr, by rw [← hPP]; exact hxm⟩ (hfirst r h)
        · exact List.mem_singleton.1 h
      subst hrx
      -- the place of r among the components that are left
      obtain ⟨s1, s2, hs⟩ := List.append_of_mem hr
      have hs1 : ∀ z ∈ s1, z ∈ a := fun z hz => by
        have hsub := I.sub
        rw [hs, hab] at hsub
        obtain ⟨u, v, huv, hu, hv⟩ := List.sublist_append_iff.1 hsub
        have hna : r ∉ a := fun h => by
          rw [hab] at hn
          exact (List.nodup_append.1 hn).2.2 r h r (by simp) rfl
        have hru : r ∉ u := fun h => hna (hu.subset h)
        rcases List.append_eq_append_iff.1 huv with ⟨c, h1, h2⟩ | ⟨c, h1, h2⟩
        · cases c with
          | nil => rw [List.append_nil] at h1; rw [h1] at hu; exact hu.subset hz
          | cons q c =>
            rw [List.cons_append] at h2
            injection h2 with h3 _
            exact absurd (by rw [h1, ← h3]; simp) hru
        · cases c with
          | nil => rw [List.append_nil] at h1; rw [← h1] at hu; exact hu.subset hz
          | cons q c =>
            exfalso
            rw [h1, List.mem_append] at hz
            have hv2 := hv
            rw [h2] at hv2
            have hnb : (r :: b).Nodup := by rw [hab] at hn; exact (List.nodup_append.1 hn).2.1
            cases hv2 with
            | cons _ h5 =>
              have : r ∈ b := h5.subset (by simp)
              exact (List.nodup_cons.1 hnb).1 this
            | cons_cons _ h5 =>
              have : r ∈ b := h5.subset (by simp)
              exact (List.nodup_cons.1 hnb).1 this
      have hf1 : ∀ z ∈ s1, z ∉ told → may (P z) told = false := fun z hz hzt => by
        cases hm : may (P z) told with
        | false => rfl
        | true => exact absurd ⟨hzt, I.rdy z (by rw [hs]; simp [hz]), hm⟩ (hfirst z (hs1 z hz))
      have hfil : (reps.filter fun q => !decide (q ∈ told)) = (s1.filter fun q => !decide (q ∈ told)) ++ r :: (s2.filter fun q => !decide (q ∈ told)) := by
        rw [hs, List.filter_append, List.filter_cons, if_pos (by simp [hrt])]
      have hidx : (((reps.filter fun q => !decide (q ∈ told)).map P).findIdx? fun p => may p told) = some (s1.filter fun q => !decide (q ∈ told)).length := by
        rw [hfil, List.map_append, List.map_cons, List.findIdx?_append]
        have h1 : (((s1.filter fun q => !decide (q ∈ told)).map P).findIdx? fun p => may p told) = none := by
          rw [List.findIdx?_eq_none_iff]
          intro p hp
          obtain ⟨z, hz, rfl⟩ := List.mem_map.1 hp
          obtain ⟨hz1, hz2⟩ := List.mem_filter.1 hz
          exact hf1 z hz1 (by simpa using hz2)
        rw [h1, List.findIdx?_cons, if_pos hxm]
        simp
      rw [hidx]
      have hget : ((reps.filter fun q => !decide (q ∈ told)).map P).getD (s1.filter fun q => !decide (q ∈ told)).length [] = P r := by
        rw [hfil, List.map_append, List.map_cons, List.getD_eq_getElem?_getD, List.getElem?_append_right (by simp)]
        simp
      have hera : ((reps.filter fun q => !decide (q ∈ told)).map P).eraseIdx (s1.filter fun q => !decide (q ∈ told)).length = (reps.filter fun q => !decide (q ∈ told ++ P r)).map P := by
        have e1 : (reps.filter fun q => !decide (q ∈ told ++ P r)) = (s1.filter fun q => !decide (q ∈ told)) ++ (s2.filter fun q => !decide (q ∈ told)) := by
          have hap := I.apart
          rw [hs, List.pairwise_append] at hap
          obtain ⟨_, hap2, hap3⟩ := hap
          rw [hs, List.filter_append, List.filter_cons, if_neg (by simp [L.self r hxr])]
          congr 1
          · refine List.filter_congr fun z hz => ?_
            have : z ∉ P r := fun hz2 => by
              have hzr := I.rdy z (by rw [hs]; simp [hz])
              have := hap3 z hz r (by simp)
              obtain ⟨_, h2⟩ := L.same r z hxr hz2
              exact this (by rw [h2]; exact L.self r hxr)
            simp [this]
          · refine List.filter_congr fun z hz => ?_
            have : z ∉ P r := (List.pairwise_cons.1 hap2).1 z hz
            simp [this]
        rw [e1, hfil, List.map_append, List.map_cons, List.eraseIdx_append_of_length_le (by simp)]
        simp
      simp only []
      rw [hget, hera]
      rw [impl_spec L hn I n (told ++ P r) (hT.add L hxr)]
end

end Go.Proofs.Ytoffelfcmfpooaa
namespace Go.Proofs.Ytoffelfcmfpooaa
open Go.RowKit

/-- x is reached from id -/
def Rch (D : IdD → List IdD) (id x : IdD) : Prop := ∀ S : IdD → Prop, (∀ y ∈ D id, S y) → (∀ y, S y → ∀ z ∈ D y, S z) → S x
theorem Rch.base {D : IdD → List IdD} {id x : IdD} (h : x ∈ D id) : Rch D id x := fun _ h1 _ => h1 x h
theorem Rch.step {D : IdD → List IdD} {id y x : IdD} (h : Rch D id y) (k : x ∈ D y) : Rch D id x := fun S h1 h2 => h2 y (h S h1 h2) x k
/-- a row that holds the Deps of id and of its own, and nothing that is not reached -/
theorem rch_iff {D : IdD → List IdD} {id : IdD} {out : List IdD} (h1 : ∀ x ∈ out, Rch D id x) (h2 : ∀ x ∈ D id, x ∈ out) (h3 : ∀ y ∈ out, ∀ x ∈ D y, x ∈ out) (x : IdD) : x ∈ out ↔ Rch D id x :=
  ⟨h1 x, fun h => h (· ∈ out) h2 h3⟩
theorem joinF_ge : ∀ (a b : List IdD), a.length ≤ (joinF a b).length ∧ ((joinF a b).length = a.length → joinF a b = a)
  | [], b => by
    rw [joinF_nil]
    exact ⟨Nat.zero_le _, fun h => List.length_eq_zero_iff.1 h⟩
  | x :: a, [] => by rw [joinF_nil2]; exact ⟨Nat.le_refl _, fun _ => rfl⟩
  | x :: a, y :: b => by
    by_cases h : idLt x y = true
    · have ih := joinF_ge a (y :: b)
      rw [joinF_lt h, List.length_cons, List.length_cons]
      exact ⟨by omega, fun e => by rw [ih.2 (by omega)]⟩
    · have h : idLt x y = false := by simpa using h
      by_cases h2 : x = y
      · subst h2
        have ih := joinF_ge a b
        rw [joinF_eq, List.length_cons, List.length_cons]
        exact ⟨by omega, fun e => by rw [ih.2 (by omega)]⟩
      · have ih := joinF_ge (x :: a) b
        rw [joinF_gt h h2]
        simp only [List.length_cons] at ih ⊢
        exact ⟨by omega, fun e => by omega⟩
termination_by a b => a.length + b.length
/-- all Deps joined to a row -/
def foldJ (D : IdD → List IdD) (nx : List IdD) (l : List IdD) : List IdD := l.foldl (fun a y => joinF a (D y)) nx
def stepF (D : IdD → List IdD) (out : List IdD) : List IdD := foldJ D out out
def iterF (D : IdD → List IdD) : Nat → List IdD → List IdD
  | 0, out => out
  | n + 1, out => iterF D n (stepF D out)
theorem foldJ_snoc (D : IdD → List IdD) (nx l : List IdD) (y : IdD) : foldJ D nx (l ++ [y]) = joinF (foldJ D nx l) (D y) := by
  rw [foldJ, List.foldl_append]; rfl
theorem foldJ_take (D : IdD → List IdD) (nx l : List IdD) (i : Nat) (hi : i < l.length) : foldJ D nx (l.take (i + 1)) = joinF (foldJ D nx (l.take i)) (D l[i]) := by
  rw [List.take_succ_eq_append_getElem hi, foldJ_snoc]
theorem foldJ_ge (D : IdD → List IdD) : ∀ (l nx : List IdD), nx.length ≤ (foldJ D nx l).length ∧ ((foldJ D nx l).length = nx.length → foldJ D nx l = nx)
  | [], nx => ⟨Nat.le_refl _, fun _ => rfl⟩
  | y :: l, nx => by
    have h1 := joinF_ge nx (D y)
    have h2 := foldJ_ge D l (joinF nx (D y))
    show nx.length ≤ (foldJ D (joinF nx (D y)) l).length ∧ ((foldJ D (joinF nx (D y)) l).length = nx.length → foldJ D (joinF nx (D y)) l = nx)
    refine ⟨by omega, fun e => ?_⟩
    rw [h2.2 (by omega), h1.2 (by omega)]
theorem mem_foldJ (D : IdD → List IdD) {x : IdD} : ∀ {l nx : List IdD}, x ∈ foldJ D nx l ↔ x ∈ nx ∨ ∃ y ∈ l, x ∈ D y
  | [], nx => by simp [foldJ]
  | y :: l, nx => by
    show x ∈ foldJ D (joinF nx (D y)) l ↔ _
    rw [mem_foldJ D, mem_joinF, or_assoc]
    simp
theorem asc_foldJ {D : IdD → List IdD} (hD : ∀ y, Asc (D y)) : ∀ {l nx : List IdD}, Asc nx → Asc (foldJ D nx l)
  | [], nx, h => h
  | y :: l, nx, h => asc_foldJ hD (l := l) (asc_joinF h (hD y))
theorem asc_iter {D : IdD → List IdD} (hD : ∀ y, Asc (D y)) : ∀ (n : Nat) {out : List IdD}, Asc out → Asc (iterF D n out)
  | 0, _, h => h
  | n + 1, _, h => asc_iter hD n (asc_foldJ hD h)
theorem iter_fix {D : IdD → List IdD} {out : List IdD} (h : stepF D out = out) : ∀ n : Nat, iterF D n out = out
  | 0 => rfl
  | n + 1 => by rw [iterF, h, iter_fix h n]
theorem sub_iter {D : IdD → List IdD} : ∀ (n : Nat) {out : List IdD} {x : IdD}, x ∈ out → x ∈ iterF D n out
  | 0, _, _, h => h
  | n + 1, _, _, h => sub_iter n ((mem_foldJ D).2 (.inl h))
theorem iter_rch {D : IdD → List IdD} {id : IdD} : ∀ (n : Nat) {out : List IdD}, (∀ x ∈ out, Rch D id x) → ∀ x ∈ iterF D n out, Rch D id x
  | 0, _, h => h
  | n + 1, _, h => iter_rch n fun x hx => by
    rcases (mem_foldJ D).1 hx with h1 | ⟨y, hy, h1⟩
    · exact h x h1
    · exact (h y hy).step h1
theorem iter_okP {D : IdD → List IdD} {p : IdD → Prop} (hD : ∀ y, ∀ x ∈ D y, p x) : ∀ (n : Nat) {out : List IdD}, (∀ x ∈ out, p x) → ∀ x ∈ iterF D n out, p x
  | 0, _, h => h
  | n + 1, _, h => iter_okP hD n fun x hx => by
    rcases (mem_foldJ D).1 hx with h1 | ⟨y, _, h1⟩
    · exact h x h1
    · exact hD y x h1
theorem nodup_lt : ∀ (n : Nat) (l : List Nat), l.Nodup → (∀ x ∈ l, x < n) → l.length ≤ n
  | 0, l, _, h => by
    cases l with
    | nil => exact Nat.le_refl _
    | cons x r => exact absurd (h x (by simp)) (by omega)
  | n + 1, l, hn, h => by
    by_cases hm : n ∈ l
    · have ih := nodup_lt n (l.erase n) (hn.erase n) fun x hx => by
        have h1 := h x (List.mem_of_mem_erase hx)
        have h2 : x ≠ n := fun e => by
          subst e
          exact (List.Nodup.not_mem_erase hn) hx
        omega
      rw [List.length_erase_of_mem hm] at ih
      omega
    · have ih := nodup_lt n l hn fun x hx => by
        have h1 := h x hx
        have h2 : x ≠ n := fun e => hm (e ▸ hx)
        omega
      omega
theorem ok_bounds {x : IdD} (h : idOkB x = true) : 0 ≤ x.rep ∧ x.rep ≤ 2 ∧ 1 ≤ x.slot ∧ x.slot ≤ 6 := by
  simp [idOkB, inB] at h
  omega
/-- right Ids without doubles are at most 18 -/
theorem ok_len {l : List IdD} (hn : l.Nodup) (hk : ∀ x ∈ l, idOkB x = true) : l.length ≤ 18 := by
  have h := nodup_lt 18 (l.map fun x => (x.rep * 6 + x.slot - 1).toNat) ?_ ?_
  · simpa using h
  · refine List.pairwise_map.2 ?_
    have h2 : l.Pairwise fun a b => a ∈ l ∧ b ∈ l ∧ a ≠ b := List.Pairwise.imp_of_mem (fun {a b} ha hb h => ⟨ha, hb, h⟩) hn
    refine h2.imp fun {a b} hab e => hab.2.2 ?_
    have ha := ok_bounds (hk a hab.1)
    have hb := ok_bounds (hk b hab.2.1)
    have e2 : a.rep * 6 + a.slot - 1 = b.rep * 6 + b.slot - 1 := by omega
    exact idD_ext (by omega) (by omega)
  · intro x hx
    obtain ⟨y, hy, rfl⟩ := List.mem_map.1 hx
    have := ok_bounds (hk y hy)
    omega
/-- whoever goes on 18 times has all -/
theorem iter_closed {D : IdD → List IdD} (hD : ∀ y, Asc (D y)) (hk : ∀ y, ∀ x ∈ D y, idOkB x = true) : ∀ (n : Nat) {out : List IdD}, Asc out → (∀ x ∈ out, idOkB x = true) → 18 ≤ n + out.length → stepF D (iterF D n out) = iterF D n out
  | 0, out, ha, ho, h => by
    show stepF D out = out
    have h1 := foldJ_ge D out out
    have h2 : (stepF D out).length ≤ 18 := ok_len (asc_nodup (asc_foldJ hD ha)) fun x hx => by
      rcases (mem_foldJ D).1 hx with h1 | ⟨y, _, h1⟩
      · exact ho x h1
      · exact hk y x h1
    exact h1.2 (Nat.le_antisymm (by have : (stepF D out).length = (foldJ D out out).length := rfl; omega) h1.1)
  | n + 1, out, ha, ho, h => by
    have h1 := foldJ_ge D out out
    by_cases he : (stepF D out).length = out.length
    · have e := h1.2 he
      have e : stepF D out = out := e
      rw [iter_fix e, e]
    · have hl : out.length + 1 ≤ (stepF D out).length := by
        have : (stepF D out).length = (foldJ D out out).length := rfl
        omega
      exact iter_closed hD hk n (asc_foldJ hD ha) (fun x hx => by
        rcases (mem_foldJ D).1 hx with h1 | ⟨y, _, h1⟩
        · exact ho x h1
        · exact hk y x h1) (by have : (stepF D out).length ≤ (foldJ D out out).length := Nat.le_refl _; omega)
def reachF (D : IdD → List IdD) (id : IdD) : List IdD := iterF D 18 (D id)
theorem asc_reach {D : IdD → List IdD} (hD : ∀ y, Asc (D y)) (id : IdD) : Asc (reachF D id) := asc_iter hD 18 (hD id)
theorem reach_ok {D : IdD → List IdD} (hk : ∀ y, ∀ x ∈ D y, idOkB x = true) (id : IdD) : ∀ x ∈ reachF D id, idOkB x = true := iter_okP hk 18 (hk id)
theorem mem_reach {D : IdD → List IdD} (hD : ∀ y, Asc (D y)) (hk : ∀ y, ∀ x ∈ D y, idOkB x = true) (id x : IdD) : x ∈ reachF D id ↔ Rch D id x := by
  refine rch_iff (iter_rch 18 fun x hx => Rch.base hx) (fun x hx => sub_iter 18 hx) (fun y hy x hx => ?_) x
  have h := iter_closed hD hk 18 (hD id) (hk id) (by omega)
  have h2 : x ∈ stepF D (iterF D 18 (D id)) := (mem_foldJ D).2 (.inr ⟨y, hy, hx⟩)
  rw [h] at h2
  exact h2
/-- what was found, sorted -/
theorem reach_sorted {D : IdD → List IdD} (hD : ∀ y, Asc (D y)) (hk : ∀ y, ∀ x ∈ D y, idOkB x = true) {id : IdD} {out ys : List IdD} (hn : out.Nodup) (h1 : ∀ x ∈ out, Rch D id x) (h2 : ∀ x ∈ D id, x ∈ out) (h3 : ∀ y ∈ out, ∀ x ∈ D y, x ∈ out) (hp : ys.Perm out) (hs : Wk ys) : ys = reachF D id :=
  asc_ext (sorted_asc hn hp hs) (asc_reach hD id) fun x => by rw [hp.mem_iff, rch_iff h1 h2 h3, mem_reach hD hk]

end Go.Proofs.Ytoffelfcmfpooaa
namespace Go.Proofs.Ytoffelfcmfpooaa
open Go.RowKit

theorem insts_good {xs : List InstD} (h : instsOkB xs = true) : instsGood xs xs.length := by simpa [instsOkB] using h
theorem insts_lt {xs : List InstD} (h : instsOkB xs = true) : ∀ i j (hi : i < xs.length) (hj : j < xs.length), i < j → idLt xs[i].id xs[j].id = true := by
  have hg := insts_good h
  intro i j hi hj hij
  induction j with
  | zero => omega
  | succ j ih =>
    obtain ⟨x, hx, _, hl⟩ := hg (j + 1) hj
    have hjj : xs[j]? = some xs[j] := List.getElem?_eq_getElem (by omega)
    have h1 := hl xs[j] (by omega) hjj
    rw [List.getElem?_eq_getElem hj] at hx
    injection hx with hx
    subst hx
    rcases Nat.lt_or_ge i j with h2 | h2
    · exact idLt_trans (ih (by omega) h2) h1
    · have : i = j := by omega
      subst this
      exact h1
theorem insts_ne {xs : List InstD} (h : instsOkB xs = true) (i j : Nat) (hi : i < xs.length) (hj : j < xs.length) (hne : i ≠ j) : xs[i].id ≠ xs[j].id := by
  intro e
  rcases Nat.lt_or_gt_of_ne hne with h1 | h1
  · have := insts_lt h i j hi hj h1
    rw [e, idLt_irrefl] at this
    cases this
  · have := insts_lt h j i hj hi h1
    rw [e, idLt_irrefl] at this
    cases this
theorem inst_ok {xs : List InstD} (h : instsOkB xs = true) (i : Nat) (hi : i < xs.length) : instOkB xs[i] = true := by
  obtain ⟨x, hx, h1, _⟩ := insts_good h i hi
  rw [List.getElem?_eq_getElem hi] at hx
  injection hx with hx
  rw [hx]; exact h1
theorem inst_deps {x : InstD} (h : instOkB x = true) : idsOkB x.deps = true := by
  unfold instOkB at h
  simp only [Bool.and_eq_true] at h
  exact h.2.2.2.2.2.2.1
theorem fInstAt_at {xs : List InstD} (h : instsOkB xs = true) (j : Nat) (hj : j < xs.length) : fInstAt xs xs[j].id = xs[j] :=
  instAt_yes hj (fun i hi hlt => insts_ne h i j hi hj (by omega)) rfl
theorem fInstAt_or (xs : List InstD) (x : IdD) : (∃ j, ∃ hj : j < xs.length, fInstAt xs x = xs[j] ∧ xs[j].id = x) ∨ fInstAt xs x = newInst x := by
  by_cases h : ∃ j, ∃ hj : j < xs.length, xs[j].id = x ∧ ∀ i (hi : i < xs.length), i < j → ¬ xs[i].id = x
  · obtain ⟨j, hj, h1, h2⟩ := h
    exact .inl ⟨j, hj, instAt_yes hj h2 h1, h1⟩
  · refine .inr (instAt_no ?_)
    have : ∀ i, ∀ hi : i < xs.length, ¬ xs[i].id = x := by
      intro i
      induction i using Nat.strongRecOn with
      | ind i ih =>
        intro hi he
        exact h ⟨i, hi, he, fun k hk hlt => ih k hlt hk⟩
    exact this
/-- is an Id committed? -/
def comB (xs : List InstD) (x : IdD) : Bool := decide ((fInstAt xs x).status = 3)
def depsOf (xs : List InstD) (x : IdD) : List IdD := if (fInstAt xs x).status = 3 then (fInstAt xs x).deps else []
theorem com_at {xs : List InstD} (h : instsOkB xs = true) {x : IdD} (j : Nat) (hj : j < xs.length) (hx : xs[j].id = x) (hs : xs[j].status = 3) : comB xs x = true ∧ depsOf xs x = xs[j].deps := by
  subst hx
  unfold comB depsOf
  rw [fInstAt_at h j hj]
  simp [hs]
theorem com_no {xs : List InstD} {x : IdD} (h : ∀ j (hj : j < xs.length), ¬ (xs[j].id = x ∧ xs[j].status = 3)) : comB xs x = false ∧ depsOf xs x = [] := by
  unfold comB depsOf
  rcases fInstAt_or xs x with ⟨j, hj, e, hx⟩ | e
  · have : ¬ xs[j].status = 3 := fun hs => h j hj ⟨hx, hs⟩
    rw [e]
    simp [this]
  · rw [e]
    simp [newInst]
theorem depsOf_ok {xs : List InstD} (h : instsOkB xs = true) (y : IdD) : idsOkB (depsOf xs y) = true := by
  unfold depsOf
  split
  · rcases fInstAt_or xs y with ⟨j, hj, e, _⟩ | e
    · rw [e]; exact inst_deps (inst_ok h j hj)
    · rw [e]; exact ids_of Asc.nil (fun x hx => absurd hx (by simp [newInst]))
  · exact ids_of Asc.nil (fun x hx => absurd hx (by simp))
theorem depsOf_asc {xs : List InstD} (h : instsOkB xs = true) (y : IdD) : Asc (depsOf xs y) := ids_asc (depsOf_ok h y)
theorem depsOf_all {xs : List InstD} (h : instsOkB xs = true) (y : IdD) : ∀ x ∈ depsOf xs y, idOkB x = true := ids_ok (depsOf_ok h y)
noncomputable def fReach (xs : List InstD) (x : IdD) : List IdD := if instsOkB xs = true then reachF (depsOf xs) x else []
noncomputable def fReady (xs : List InstD) (x : IdD) : Bool := instsOkB xs && (comB xs x && (reachF (depsOf xs) x).all (comB xs))
theorem reach_len {xs : List InstD} (h : instsOkB xs = true) (x : IdD) : (reachF (depsOf xs) x).length ≤ 18 :=
  ok_len (asc_nodup (asc_reach (depsOf_asc h) x)) (reach_ok (depsOf_all h) x)
theorem reach_done {xs : List InstD} (h : instsOkB xs = true) {id : IdD} {out ys : List IdD} (hn : out.Nodup) (h1 : ∀ x ∈ out, Rch (depsOf xs) id x) (h2 : ∀ x ∈ depsOf xs id, x ∈ out) (h3 : ∀ y ∈ out, ∀ x ∈ depsOf xs y, x ∈ out) (hp : ys.Perm out) (hs : Wk ys) : ys = reachF (depsOf xs) id :=
  reach_sorted (depsOf_asc h) (depsOf_all h) hn h1 h2 h3 hp hs
/-- the search goes on -/
structure Srch (D : IdD → List IdD) (id : IdD) (out q : List IdD) : Prop where
  nodup : out.Nodup
  rch : ∀ x ∈ out, Rch D id x
  qs : ∀ x ∈ q, x = id ∨ x ∈ out
  here : (id ∈ q ∨ ∀ x ∈ D id, x ∈ out)
  all : ∀ y ∈ out, y ∈ q ∨ ∀ x ∈ D y, x ∈ out
theorem Srch.start (D : IdD → List IdD) (id : IdD) : Srch D id [] [id] := ⟨List.nodup_nil, by simp, by simp, .inl (by simp), by simp⟩
/-- while the Deps of y are looked at: those ahead of place j are in -/
structure SrchIn (D : IdD → List IdD) (id y : IdD) (j : Nat) (out q : List IdD) : Prop where
  nodup : out.Nodup
  rch : ∀ x ∈ out, Rch D id x
  qs : ∀ x ∈ q, x = id ∨ x ∈ out
  me : y = id ∨ y ∈ out
  done : ∀ x ∈ (D y).take j, x ∈ out
  here : y ≠ id → (id ∈ q ∨ ∀ x ∈ D id, x ∈ out)
  all : ∀ z ∈ out, z ≠ y → z ∈ q ∨ ∀ x ∈ D z, x ∈ out
theorem Srch.enter {D : IdD → List IdD} {id y : IdD} {out q : List IdD} (h : Srch D id out (y :: q)) : SrchIn D id y 0 out q where
  nodup := h.nodup
  rch := h.rch
  qs := fun x hx => h.qs x (List.mem_cons_of_mem _ hx)
  me := h.qs y (by simp)
  done := by simp
  here := fun hne => by
    rcases h.here with h1 | h1
    · rcases List.mem_cons.1 h1 with h2 | h2
      · exact absurd h2.symm hne
      · exact .inl h2
    · exact .inr h1
  all := fun z hz hne => by
    rcases h.all z hz with h1 | h1
    · rcases List.mem_cons.1 h1 with h2 | h2
      · exact absurd h2 hne
      · exact .inl h2
    · exact .inr h1
theorem SrchIn.skip {D : IdD → List IdD} {id y : IdD} {j : Nat} {out q : List IdD} (h : SrchIn D id y j out q) (hj : j < (D y).length) (hm : (D y)[j] ∈ out) : SrchIn D id y (j + 1) out q where
  nodup := h.nodup
  rch := h.rch
  qs := h.qs
  me := h.me
  done := fun x hx => by
    rw [List.take_succ_eq_append_getElem hj, List.mem_append] at hx
    rcases hx with hx | hx
    · exact h.done x hx
    · rw [List.mem_singleton.1 hx]; exact hm
  here := h.here
  all := h.all
theorem SrchIn.rchy {D : IdD → List IdD} {id y : IdD} {j : Nat} {out q : List IdD} (h : SrchIn D id y j out q) {x : IdD} (hx : x ∈ D y) : Rch D id x := by
  rcases h.me with rfl | h1
  · exact Rch.base hx
  · exact (h.rch y h1).step hx
theorem SrchIn.add {D : IdD → List IdD} {id y : IdD} {j : Nat} {out q : List IdD} (h : SrchIn D id y j out q) (hj : j < (D y).length) (hm : (D y)[j] ∉ out) : SrchIn D id y (j + 1) (out ++ [(D y)[j]]) (q ++ [(D y)[j]]) where
  nodup := List.nodup_append.2 ⟨h.nodup, by simp, fun a ha b hb e => by rw [List.mem_singleton.1 hb] at e; subst e; exact hm ha⟩
  rch := fun x hx => by
    rcases List.mem_append.1 hx with hx | hx
    · exact h.rch x hx
    · rw [List.mem_singleton.1 hx]; exact h.rchy (List.getElem_mem hj)
  qs := fun x hx => by
    rcases List.mem_append.1 hx with hx | hx
    · rcases h.qs x hx with h1 | h1
      · exact .inl h1
      · exact .inr (List.mem_append_left _ h1)
    · exact .inr (List.mem_append_right _ hx)
  me := h.me.elim .inl fun h1 => .inr (List.mem_append_left _ h1)
  done := fun x hx => by
    rw [List.take_succ_eq_append_getElem hj] at hx
    rcases List.mem_append.1 hx with hx | hx
    · exact List.mem_append_left _ (h.done x hx)
    · exact List.mem_append_right _ hx
  here := fun hne => (h.here hne).elim (fun h1 => .inl (List.mem_append_left _ h1)) fun h1 => .inr fun x hx => List.mem_append_left _ (h1 x hx)
  all := fun z hz hne => by
    rcases List.mem_append.1 hz with hz | hz
    · exact (h.all z hz hne).elim (fun h1 => .inl (List.mem_append_left _ h1)) fun h1 => .inr fun x hx => List.mem_append_left _ (h1 x hx)
    · exact .inl (List.mem_append_right _ hz)
theorem SrchIn.leave {D : IdD → List IdD} {id y : IdD} {j : Nat} {out q : List IdD} (h : SrchIn D id y j out q) (hj : j = (D y).length) : Srch D id out q := by
  have hd : ∀ x ∈ D y, x ∈ out := fun x hx => h.done x (by rw [hj, List.take_length]; exact hx)
  refine ⟨h.nodup, h.rch, h.qs, ?_, fun z hz => ?_⟩
  · by_cases e : y = id
    · exact .inr (e ▸ hd)
    · exact h.here e
  · by_cases e : z = y
    · exact .inr (e ▸ hd)
    · exact h.all z hz e
theorem Srch.done {xs : List InstD} (hok : instsOkB xs = true) {id : IdD} {out ys : List IdD} (h : Srch (depsOf xs) id out []) (hp : ys.Perm out) (hs : Wk ys) : ys = reachF (depsOf xs) id := by
  refine reach_done hok h.nodup h.rch ?_ (fun y hy => ?_) hp hs
  · rcases h.here with h1 | h1
    · cases h1
    · exact h1
  · rcases h.all y hy with h1 | h1
    · cases h1
    · exact h1
theorem Srch.len {xs : List InstD} (hok : instsOkB xs = true) {id : IdD} {out q : List IdD} (h1 : out.Nodup) (h2 : ∀ x ∈ out, Rch (depsOf xs) id x) : out.length ≤ 18 :=
  ok_len h1 fun x hx => reach_ok (depsOf_all hok) id x ((mem_reach (depsOf_asc hok) (depsOf_all hok) id x).2 (h2 x hx))

end Go.Proofs.Ytoffelfcmfpooaa
namespace Go.Proofs.Ytoffelfcmfpooaa

theorem Rch.trans {D : IdD → List IdD} {a b c : IdD} (h : Rch D a b) (k : Rch D b c) : Rch D a c := fun S h1 h2 => k S (fun y hy => h2 b (h S h1 h2) y hy) h2
section
variable (xs : List InstD)
def rchL (x : IdD) : List IdD := reachF (depsOf xs) x
def rdyB (x : IdD) : Bool := comB xs x && (rchL xs x).all (comB xs)
def seqI (x : IdD) : Int := (fInstAt xs x).seq
def inPB (id x : IdD) : Bool := decide (x = id) || (decide (x ∈ rchL xs id) && decide (id ∈ rchL xs x))
def ltP (x y : IdD) : Prop := seqI xs x < seqI xs y ∨ (seqI xs x = seqI xs y ∧ idLt x y = true)
def atF (out : List IdD) (x : IdD) : Nat → Nat
  | 0 => 0
  | k + 1 => if seqI xs x < seqI xs (out.getD k x) then atF out x k else k + 1
def insP (out : List IdD) (x : IdD) : List IdD := out.take (atF xs out x out.length) ++ x :: out.drop (atF xs out x out.length)
def idsOf : List IdD := xs.map InstD.id
def partFrom (id : IdD) : List IdD → List IdD → List IdD
  | out, [] => out
  | out, x :: r => partFrom id (if inPB xs id x = true then insP xs out x else out) r
def partF (id : IdD) : List IdD := partFrom xs id [] (idsOf xs)
def mayS (p told : List IdD) : Bool := p.all fun y => (depsOf xs y).all fun d => decide (d ∈ p) || decide (d ∈ told)
def mayI (p told : List IdD) : Bool := p.all fun y => (fInstAt xs y).deps.all fun d => decide (d ∈ p) || decide (d ∈ told)
noncomputable def fParts : List (List IdD) := if instsOkB xs = true then specF (partF xs) (rdyB xs) (mayS xs) (idsOf xs) (xs.length + 1) [] else []
variable {xs}
theorem atF_le (out : List IdD) (x : IdD) : ∀ k, atF xs out x k ≤ k
  | 0 => Nat.le_refl _
  | k + 1 => by
    rw [atF]
    split
    · have := atF_le out x k; omega
    · exact Nat.le_refl _
theorem atF_gt (out : List IdD) (x : IdD) : ∀ k i, atF xs out x k ≤ i → i < k → seqI xs x < seqI xs (out.getD i x)
  | 0, i, _, h => absurd h (Nat.not_lt_zero _)
  | k + 1, i, h, hi => by
    rw [atF] at h
    split at h
    · rename_i hc
      by_cases e : i = k
      · subst e; exact hc
      · exact atF_gt out x k i h (by omega)
    · omega
theorem atF_last (out : List IdD) (x : IdD) : ∀ k j, atF xs out x k = j + 1 → seqI xs (out.getD j x) ≤ seqI xs x
  | 0, j, h => by simp [atF] at h
  | k + 1, j, h => by
    rw [atF] at h
    split at h
    · exact atF_last out x k j h
    · rename_i hc
      have : j = k := by omega
      subst this
      omega
theorem mem_insP {out : List IdD} {x z : IdD} : z ∈ insP xs out x ↔ z = x ∨ z ∈ out := by
  unfold insP
  rw [List.mem_append, List.mem_cons]
  constructor
  · rintro (h | h | h)
    · exact .inr (List.mem_of_mem_take h)
    · exact .inl h
    · exact .inr (List.mem_of_mem_drop h)
  · rintro (h | h)
    · exact .inr (.inl h)
    · rw [← List.take_append_drop (atF xs out x out.length) out] at h
      rcases List.mem_append.1 h with h | h
      · exact .inl h
      · exact .inr (.inr h)
theorem insP_len (out : List IdD) (x : IdD) : (insP xs out x).length = out.length + 1 := by
  have := atF_le (xs := xs) out x out.length
  unfold insP
  rw [List.length_append, List.length_cons, List.length_take, List.length_drop]
  omega
theorem insP_sorted {out : List IdD} {x : IdD} (h : out.Pairwise (ltP xs)) (hx : ∀ y ∈ out, idLt y x = true) : (insP xs out x).Pairwise (ltP xs) := by
  have hle := atF_le (xs := xs) out x out.length
  have hgt := atF_gt (xs := xs) out x out.length
  have hla := atF_last (xs := xs) out x out.length
  unfold insP
  generalize atF xs out x out.length = k at *
  have hpi := List.pairwise_iff_getElem.1 h
  have hlow : ∀ y ∈ out.take k, ltP xs y x := fun y hy => by
    obtain ⟨i, hi, rfl⟩ := List.getElem_of_mem hy
    rw [List.getElem_take]
    rw [List.length_take] at hi
    have hmem := hx out[i] (List.getElem_mem _)
    obtain ⟨j, rfl⟩ : ∃ j, k = j + 1 := ⟨k - 1, by omega⟩
    have h1 := hla j rfl
    rw [List.getD_eq_getElem?_getD, List.getElem?_eq_getElem (by omega), Option.getD_some] at h1
    have h2 : seqI xs out[i] ≤ seqI xs (out[j]'(by omega)) := by
      by_cases e : i = j
      · subst e; exact Int.le_refl _
      · rcases hpi i j (by omega) (by omega) (by omega) with h3 | h3
        · omega
        · omega
    by_cases e : seqI xs out[i] = seqI xs x
    · exact .inr ⟨e, hmem⟩
    · exact .inl (by omega)
  have hhigh : ∀ y ∈ out.drop k, ltP xs x y := fun y hy => by
    obtain ⟨i, hi, rfl⟩ := List.getElem_of_mem hy
    rw [List.getElem_drop]
    rw [List.length_drop] at hi
    have := hgt (k + i) (by omega) (by omega)
    rw [List.getD_eq_getElem?_getD, List.getElem?_eq_getElem (by omega), Option.getD_some] at this
    exact .inl this
  rw [List.pairwise_append]
  refine ⟨h.sublist (List.take_sublist _ _), List.pairwise_cons.2 ⟨hhigh, h.sublist (List.drop_sublist _ _)⟩, fun a ha b hb => ?_⟩
  rcases List.mem_cons.1 hb with rfl | hb
  · exact hlow a ha
  · have := h
    rw [← List.take_append_drop k out, List.pairwise_append] at this
    exact this.2.2 a ha b hb
theorem ltP_irrefl {x : IdD} : ¬ ltP xs x x := by
  rintro (h | ⟨_, h⟩)
  · omega
  · rw [idLt_irrefl] at h; cases h
theorem ltP_asymm {x y : IdD} (h : ltP xs x y) : ¬ ltP xs y x := by
  rintro (k | ⟨k1, k2⟩) <;> rcases h with h | ⟨h1, h2⟩
  · omega
  · omega
  · omega
  · rw [idLt_asymm h2] at k2; cases k2
theorem ltP_total {x y : IdD} (h : ¬ ltP xs x y) (k : ¬ ltP xs y x) : x = y := by
  have h1 : ¬ seqI xs x < seqI xs y := fun e => h (.inl e)
  have h2 : ¬ seqI xs y < seqI xs x := fun e => k (.inl e)
  have he : seqI xs x = seqI xs y := by omega
  refine idLt_eq (Bool.eq_false_iff.2 fun e => h (.inr ⟨he, e⟩)) (Bool.eq_false_iff.2 fun e => k (.inr ⟨he.symm, e⟩))
theorem ltP_ext : ∀ {a b : List IdD}, a.Pairwise (ltP xs) → b.Pairwise (ltP xs) → (∀ x, x ∈ a ↔ x ∈ b) → a = b
  | [], [], _, _, _ => rfl
  | [], y :: b, _, _, h => absurd ((h y).2 (by simp)) (by simp)
  | x :: a, [], _, _, h => absurd ((h x).1 (by simp)) (by simp)
  | x :: a, y :: b, hx, hy, h => by
    obtain ⟨hx1, hx2⟩ := List.pairwise_cons.1 hx
    obtain ⟨hy1, hy2⟩ := List.pairwise_cons.1 hy
    have he : x = y := by
      rcases List.mem_cons.1 ((h x).1 (by simp)) with e | e
      · exact e
      · rcases List.mem_cons.1 ((h y).2 (by simp)) with e2 | e2
        · exact e2.symm
        · exact absurd (hx1 y e2) (ltP_asymm (hy1 x e))
    subst he
    congr 1
    refine ltP_ext hx2 hy2 fun z => ⟨fun hz => ?_, fun hz => ?_⟩
    · rcases List.mem_cons.1 ((h z).1 (List.mem_cons_of_mem _ hz)) with e | e
      · subst e; exact absurd (hx1 z hz) ltP_irrefl
      · exact e
    · rcases List.mem_cons.1 ((h z).2 (List.mem_cons_of_mem _ hz)) with e | e
      · subst e; exact absurd (hy1 z hz) ltP_irrefl
      · exact e
theorem mem_partFrom {id z : IdD} : ∀ {r out : List IdD}, z ∈ partFrom xs id out r ↔ z ∈ out ∨ (z ∈ r ∧ inPB xs id z = true)
  | [], out => by simp [partFrom]
  | x :: r, out => by
    rw [partFrom, mem_partFrom]
    by_cases h : inPB xs id x = true
    · rw [if_pos h, mem_insP, List.mem_cons]
      constructor
      · rintro ((rfl | h1) | ⟨h1, h2⟩)
        · exact .inr ⟨.inl rfl, h⟩
        · exact .inl h1
        · exact .inr ⟨.inr h1, h2⟩
      · rintro (h1 | ⟨rfl | h1, h2⟩)
        · exact .inl (.inr h1)
        · exact .inl (.inl rfl)
        · exact .inr ⟨h1, h2⟩
    · rw [if_neg h, List.mem_cons]
      constructor
      · rintro (h1 | ⟨h1, h2⟩)
        · exact .inl h1
        · exact .inr ⟨.inr h1, h2⟩
      · rintro (h1 | ⟨rfl | h1, h2⟩)
        · exact .inl h1
        · exact absurd h2 h
        · exact .inr ⟨h1, h2⟩
theorem partFrom_len {id : IdD} : ∀ (r out : List IdD), (partFrom xs id out r).length ≤ out.length + r.length
  | [], out => by simp [partFrom]
  | x :: r, out => by
    rw [partFrom]
    have := partFrom_len (id := id) r (if inPB xs id x = true then insP xs out x else out)
    refine Nat.le_trans this ?_
    split
    · rw [insP_len, List.length_cons]; omega
    · rw [List.length_cons]; omega
theorem partFrom_sorted {id : IdD} : ∀ {r out : List IdD}, Asc r → out.Pairwise (ltP xs) → (∀ y ∈ out, ∀ z ∈ r, idLt y z = true) → (partFrom xs id out r).Pairwise (ltP xs)
  | [], out, _, h, _ => h
  | x :: r, out, ha, h, hlt => by
    obtain ⟨ha1, ha2⟩ := asc_cons.1 ha
    rw [partFrom]
    split
    · refine partFrom_sorted ha2 (insP_sorted h fun y hy => hlt y hy x (by simp)) fun y hy z hz => ?_
      rcases mem_insP.1 hy with rfl | hy
      · exact ha1 z hz
      · exact hlt y hy z (by simp [hz])
    · exact partFrom_sorted ha2 h fun y hy z hz => hlt y hy z (by simp [hz])
end
section
variable {xs : List InstD} (hok : instsOkB xs = true)
include hok
theorem ids_ascOf : Asc (idsOf xs) := by
  refine List.pairwise_map.2 (List.pairwise_iff_getElem.2 fun i j hi hj hij => insts_lt hok i j hi hj hij)
theorem partF_sorted (id : IdD) : (partF xs id).Pairwise (ltP xs) := partFrom_sorted (ids_ascOf hok) .nil (by simp)
omit hok in
theorem mem_partF {id z : IdD} : z ∈ partF xs id ↔ z ∈ idsOf xs ∧ inPB xs id z = true := by
  unfold partF
  rw [mem_partFrom]
  simp
theorem mem_rch (a b : IdD) : b ∈ rchL xs a ↔ Rch (depsOf xs) a b := mem_reach (depsOf_asc hok) (depsOf_all hok) a b
omit hok in
theorem com_in {x : IdD} (h : comB xs x = true) : x ∈ idsOf xs := by
  rcases fInstAt_or xs x with ⟨j, hj, he, hx⟩ | he
  · rw [← hx]; exact List.mem_map.2 ⟨xs[j], List.getElem_mem hj, rfl⟩
  · unfold comB at h
    rw [he] at h
    simp [newInst] at h
omit hok in
theorem rdy_com {x : IdD} (h : rdyB xs x = true) : comB xs x = true ∧ ∀ y ∈ rchL xs x, comB xs y = true := by
  unfold rdyB at h
  simpa using h
theorem part_laws : PartLaws (partF xs) (rdyB xs) where
  self x h := mem_partF.2 ⟨com_in (rdy_com h).1, by simp [inPB]⟩
  same x y h hy := by
    obtain ⟨h1, h2⟩ := rdy_com h
    obtain ⟨_, hin⟩ := mem_partF.1 hy
    by_cases e : y = x
    · subst e; exact ⟨h, rfl⟩
    · have hin2 : y ∈ rchL xs x ∧ x ∈ rchL xs y := by simpa [inPB, e] using hin
      have hxy := (mem_rch hok x y).1 hin2.1
      have hyx := (mem_rch hok y x).1 hin2.2
      refine ⟨?_, ?_⟩
      · unfold rdyB
        rw [h2 y hin2.1, Bool.true_and, List.all_eq_true]
        exact fun z hz => h2 z ((mem_rch hok x z).2 (hxy.trans ((mem_rch hok y z).1 hz)))
      · refine ltP_ext (partF_sorted hok y) (partF_sorted hok x) fun z => ?_
        rw [mem_partF, mem_partF]
        have key : inPB xs y z = true ↔ inPB xs x z = true := by
          simp only [inPB, Bool.or_eq_true, Bool.and_eq_true, decide_eq_true_eq, mem_rch hok]
          constructor
          · rintro (rfl | ⟨k1, k2⟩)
            · exact .inr ⟨hxy, hyx⟩
            · exact .inr ⟨hxy.trans k1, k2.trans hyx⟩
          · rintro (rfl | ⟨k1, k2⟩)
            · exact .inr ⟨hyx, hxy⟩
            · exact .inr ⟨hyx.trans k1, k2.trans hxy⟩
        rw [key]
/-- the program's component: what it sorts -/
theorem part_done {id : IdD} (h : rdyB xs id = true) {out ys : List IdD} (ho : out = id :: (rchL xs id).filter (fun d => !decide (d = id) && decide (id ∈ rchL xs d))) (hp : ys.Perm out) (hs : ys.Pairwise fun a b => ¬ ltP xs b a) : ys = partF xs id := by
  have hnd : out.Nodup := by
    rw [ho]
    refine List.nodup_cons.2 ⟨fun hm => ?_, List.Nodup.sublist List.filter_sublist (asc_nodup (asc_reach (depsOf_asc hok) id))⟩
    have := (List.mem_filter.1 hm).2
    simp at this
  have hys : ys.Pairwise (ltP xs) := by
    refine List.Pairwise.imp (R := fun a b => ¬ ltP xs b a ∧ a ≠ b) (fun {a b} hh => ?_) (hs.and ((hp.nodup_iff).2 hnd))
    exact Classical.byContradiction fun hn => hh.2 (ltP_total hn hh.1)
  refine ltP_ext hys (partF_sorted hok id) fun z => ?_
  obtain ⟨h1, h2⟩ := rdy_com h
  rw [hp.mem_iff, ho, mem_partF, List.mem_cons, List.mem_filter]
  constructor
  · rintro (rfl | ⟨k1, k2⟩)
    · exact ⟨com_in h1, by simp [inPB]⟩
    · have k3 : ¬ z = id ∧ id ∈ rchL xs z := by simpa using k2
      exact ⟨com_in (h2 z k1), by simp [inPB, k1, k3.2]⟩
  · rintro ⟨_, k⟩
    by_cases e : z = id
    · exact .inl e
    · have k3 : z ∈ rchL xs id ∧ id ∈ rchL xs z := by simpa [inPB, e] using k
      exact .inr ⟨k3.1, by simp [e, k3.2]⟩
omit hok in
theorem com_deps {y : IdD} (h : comB xs y = true) : (fInstAt xs y).deps = depsOf xs y := by
  unfold comB at h
  unfold depsOf
  rw [if_pos (by simpa using h)]
theorem may_same {x : IdD} (h : rdyB xs x = true) (told : List IdD) : mayI xs (partF xs x) told = mayS xs (partF xs x) told := by
  unfold mayI mayS
  have hall : ∀ y ∈ partF xs x, comB xs y = true := fun y hy => (rdy_com ((part_laws hok).same x y h hy).1).1
  generalize partF xs x = p at hall
  have gen : ∀ (q : List IdD), (∀ y ∈ q, comB xs y = true) → (q.all fun y => (fInstAt xs y).deps.all fun d => decide (d ∈ p) || decide (d ∈ told)) = (q.all fun y => (depsOf xs y).all fun d => decide (d ∈ p) || decide (d ∈ told)) := by
    intro q hq
    induction q with
    | nil => rfl
    | cons y q ih =>
      rw [List.all_cons, List.all_cons, com_deps (hq y (by simp)), ih fun z hz => hq z (by simp [hz])]
  exact gen p hall
omit hok in
theorem implF_congr {may may2 : List IdD → List IdD → Bool} : ∀ (n : Nat) (left : List (List IdD)) (told : List IdD), (∀ p ∈ left, ∀ t, may p t = may2 p t) → implF may n left told = implF may2 n left told
  | 0, _, _, _ => rfl
  | n + 1, left, told, h => by
    rw [implF, implF]
    have e : left.findIdx? (fun p => may p told) = left.findIdx? (fun p => may2 p told) := by
      clear n
      induction left with
      | nil => rfl
      | cons a l ih =>
        rw [List.findIdx?_cons, List.findIdx?_cons, h a (by simp), ih fun p hp => h p (by simp [hp])]
    rw [e]
    cases left.findIdx? (fun p => may2 p told) with
    | none => rfl
    | some k =>
      simp only []
      rw [implF_congr n _ _ fun p hp t => h p (List.mem_of_mem_eraseIdx hp) t]
/-- the program's way through the components, all of it -/
theorem parts_impl (n : Nat) : implF (mayI xs) n ((repsF (partF xs) (rdyB xs) [] (idsOf xs)).map (partF xs)) [] = specF (partF xs) (rdyB xs) (mayS xs) (idsOf xs) n [] := by
  have I : RepInv (partF xs) (rdyB xs) ([] ++ idsOf xs) (repsF (partF xs) (rdyB xs) [] (idsOf xs)) := RepInv.all (part_laws hok) (idsOf xs) RepInv.nil
  rw [List.nil_append] at I
  have hc := implF_congr (may := mayI xs) (may2 := mayS xs) n ((repsF (partF xs) (rdyB xs) [] (idsOf xs)).map (partF xs)) [] (fun p hp t => by
    obtain ⟨r, hr, rfl⟩ := List.mem_map.1 hp
    exact may_same hok (I.rdy r hr) t)
  rw [hc]
  have := impl_spec (may := mayS xs) (part_laws hok) (asc_nodup (ids_ascOf hok)) I n [] Told.nil
  rw [← this]
  congr 2
  exact (List.filter_eq_self.2 (by simp)).symm
theorem insts_len18 : xs.length ≤ 18 := by
  have h1 := ok_len (asc_nodup (ids_ascOf hok)) (fun x hx => by
    obtain ⟨y, hy, rfl⟩ := List.mem_map.1 hx
    obtain ⟨j, hj, rfl⟩ := List.getElem_of_mem hy
    have := inst_ok hok j hj
    simp only [instOkB, Bool.and_eq_true] at this
    exact this.1)
  unfold idsOf at h1
  rwa [List.length_map] at h1
end
theorem specF_len {P : IdD → List IdD} {ready : IdD → Bool} {may : List IdD → List IdD → Bool} {ids : List IdD} : ∀ (n : Nat) (told : List IdD), (specF P ready may ids n told).length ≤ n
  | 0, _ => Nat.le_refl _
  | n + 1, told => by
    rw [specF]
    split
    · exact Nat.zero_le _
    · rename_i x _
      rw [List.length_cons]
      exact Nat.succ_le_succ (specF_len n (told ++ P x))
theorem specF_mem {P : IdD → List IdD} {ready : IdD → Bool} {may : List IdD → List IdD → Bool} {ids : List IdD} : ∀ (n : Nat) (told : List IdD), ∀ p ∈ specF P ready may ids n told, ∃ x, p = P x
  | 0, _, p, h => by cases h
  | n + 1, told, p, h => by
    rw [specF] at h
    split at h
    · cases h
    · rcases List.mem_cons.1 h with rfl | h
      · exact ⟨_, rfl⟩
      · exact specF_mem n _ p h

end Go.Proofs.Ytoffelfcmfpooaa
namespace Go.Proofs.Ytoffelfcmfpooaa
open Go.RowKit

theorem IdD.cts_le : ∀ xs : List IdD, cts IdD.cnt xs ≤ 2 * xs.length
  | [] => Nat.le_refl _
  | x :: xs => by
    have := IdD.cts_le xs
    rw [cts, List.length_cons]
    show 1 + 1 + _ ≤ _
    omega
theorem bJoinIds (xs ys : List IdD) (h : xs.length + (cat IdD.c xs).wt ≤ 1048576) (h' : ys.length + (cat IdD.c ys).wt ≤ 1048576) :
    (fJoinIds xs ys).length + (cat IdD.c (fJoinIds xs ys)).wt ≤ 4611686018427387 ∧ cts IdD.cnt (fJoinIds xs ys) ≤ 4611686018427387 := by
  have hw : ∀ l : List IdD, (cat IdD.c l).wt = 0 := fun l => by
    induction l with
    | nil => rfl
    | cons x r ih => rw [cat_cons, Cs.wt_app, ih]; rfl
  have hc : ∀ l : List IdD, cts IdD.cnt l = 2 * l.length := fun l => by
    induction l with
    | nil => rfl
    | cons x r ih => rw [cts, ih, List.length_cons]; show 1 + 1 + _ = _; omega
  have hl : (fJoinIds xs ys).length ≤ 2097152 := by
    unfold fJoinIds
    split
    · have := joinF_len xs ys; omega
    · simp
  rw [hw, hc]
  omega
theorem Own.sl_cap {w : World} {base e sz n c : Nat} {i : Cs} {A : Option Addr} {F : List Nat} (h : Own w base (.sl e sz n i .nil) [.slice A n c] F) : n ≤ c := by
  obtain ⟨cells, F1, _, _, hrow, _⟩ := Own.sl1.1 h
  rcases hrow.2 with ⟨h1, h2⟩ | ⟨g, cap, cur, hv, _, _, hnc, _⟩
  · omega
  · injection hv with _ _ h3
    omega





















































end Go.Proofs.Ytoffelfcmfpooaa
namespace Go.Proofs.Ytoffelfcmfpooaa
open Go.RowKit

set_option maxRecDepth 100000 in
set_option maxHeartbeats 4000000 in
theorem l12Find_at (xs : List InstD) (x : IdD) (A : Option Addr) (n k : Nat) (cs : List Value) (w : World) (hn : n = xs.length) (hwt : n ≤ 1048576) (hok : instsOkB xs = true) (h : Rep anyB w (.sl 40 16 n (cat InstD.c xs) .nil) [.slice A n k]) (h' : Rep anyB w x.c cs) :
    Calls Try.prog 78 #[.slice A n k, .agg cs.toArray] w fun e w' => ∃ r : Int, e = .returned (.int .i64 r) ∧ ((∃ j, ∃ hj : j < xs.length, r = (j : Int) ∧ comB xs x = true ∧ depsOf xs x = xs[j].deps ∧ xs[j].id = x) ∨ (r = -1 ∧ comB xs x = false ∧ depsOf xs x = [])) ∧ Below w.heap.size w w' := by
  obtain rfl := IdD.open h'
  have HN := Lib.hid hn; clear hn
  have HR := Lib.hid h; clear h
  have HY := Lib.hid (fun j hj h1 h2 => @com_at xs hok x j hj h1 h2)
  have HNO := Lib.hid (fun h => @com_no xs x h)
  generalize comB xs x = C at HY HNO ⊢
  generalize depsOf xs x = D at HY HNO ⊢
  clear h' hok
  obtain ⟨xr, xs'⟩ := x
  simp only [] at HY HNO ⊢
  have SB := Lib.hid (blk_new w #[.int .i64 xr, .int .i64 xs'] 36)
  go_enter Try.func78, Try.ntmps78
  go_wp2_with fail
  go_loopw [5] (fun ii wr => ∃ j : Nat, j ≤ n ∧ ii = .int .i64 (j : Int) ∧ (∀ i (hi : i < xs.length), i < j → ¬ (xs[i].id = ⟨xr, xs'⟩ ∧ xs[i].status = 3)) ∧ Blk wr w.heap.size 36 [.int .i64 xr, .int .i64 xs'].toArray ∧ Below w.heap.size w wr) (fun ii _ => n - (intOf ii).toNat)
  case atStart => exact ⟨0, Nat.zero_le _, rfl, fun i _ hi => absurd hi (Nat.not_lt_zero _), SB.out, (by repeat' (first | with_reducible exact Below.refl _ _ | with_reducible exact BW.out | with_reducible refine Below.setCell ?_ ?_ _ | with_reducible refine Below.alloc ?_ ?_ _ | with_reducible refine Below.drew ?_ | (simp; done) | (simp; omega) | omega))⟩
  case round =>
    obtain ⟨j, hj, rfl, hno, hsb, hbel⟩ := hrel
    clear SB
    have HNJ := Lib.hid hno; clear hno
    have BW := Lib.hid hbel; clear hbel
    by_cases hlt : j < n
    · have hjx : j < xs.length := by have := HN.out; omega
      obtain ⟨ad, ci, rfl, _, _, hrc, hl, hc⟩ := (HR.out.below BW.out).elem InstD.width j hjx HN.out
      have hcid := id_cells hrc hc
      obtain ⟨A1, k1, A2, k2, rfl, _⟩ := InstD.open hrc
      have h4 : wr.cell? ⟨(ad.add (j * 16)).block, (ad.add (j * 16)).off + 4, none⟩ = some (.int .i64 xs[j].status) := hc 4 _ rfl
      have hye := HY.out j hjx
      have hnx : ∀ (hq : ¬ (xs[j].id = ⟨xr, xs'⟩ ∧ xs[j].status = 3)), ∀ i (hi : i < xs.length), i < j + 1 → ¬ (xs[i].id = ⟨xr, xs'⟩ ∧ xs[i].status = 3) := fun hq i hi hlt => by
        rcases Nat.lt_or_ge i j with h | h
        · exact HNJ.out i hi h
        · have : i = j := by omega
          subst this
          exact hq
      have HYE := Lib.hid hye; clear hye
      have HNX := Lib.hid hnx; clear hnx
      clear hc hrc hl
      obtain ⟨Y, hY⟩ : ∃ Y, Y = xs[j] := ⟨_, rfl⟩
      rw [← hY] at hcid h4 HYE HNX
      have HYX := Lib.hid hY; clear hY
      obtain ⟨⟨yr, ys⟩, ybal, yvb, yst, ycmd, yseq, ydeps, ysame⟩ := Y
      simp only [] at hcid h4 HYE HNX
      have HCI := Lib.hid hcid; clear hcid
      by_cases e1 : yr = xr
      · subst e1
        by_cases e2 : ys = xs'
        · subst e2
          by_cases e3 : yst = 3
          · subst e3
            have hy := HYE.out rfl rfl
            have HD := Lib.hid hy; clear hy HNX
            go_wp2
            refine wp_region_g 14 (.one 0 (.one 1 (.one 2 (.one 3 (.one 4 (.one 5 (.act 6 (.one 7 (.one 8 (.one 9 (.one 10 (.one 11 (.one 12 (.one 13 .leaf)))))))))))))) (by kernel_rfl) (by kernel_rfl) ?_
            iterate 4 (refine wpG_quiet rfl (by kernel_rfl) rfl ?_; go_wp2; refine ⟨rfl, ?_⟩)
            refine wpG_quiet rfl (by kernel_rfl) rfl ?_; refine wpList_load_row _ _ rfl [.int .i64 yr, .int .i64 ys] agg_Id rfl HCI.out ?_; go_wp2; refine ⟨rfl, ?_⟩
            refine wpG_quiet rfl (by kernel_rfl) rfl ?_; refine wpList_load_row _ ⟨w.heap.size, 0, none⟩ rfl [.int .i64 yr, .int .i64 ys] agg_Id rfl (blk_cells hsb) ?_; go_wp2; refine ⟨rfl, ?_⟩
            refine wpG_act rfl ?_; go_wp2
            refine ⟨Ext.refl _, ?_⟩
            iterate 1 (refine wpG_quiet rfl (by kernel_rfl) rfl ?_; go_wp2; refine ⟨rfl, ?_⟩)
            iterate 6 (refine wpG_quiet rfl (by kernel_rfl) rfl ?_; go_wp2; refine ⟨rfl, ?_⟩)
            refine wpG_nil ?_; try simp only [List.drop_succ_cons, List.drop_zero]
            go_wp2
            go_ret
            exact ⟨(j : Int), ret_eq rfl, .inl ⟨j, hjx, rfl, HD.out.1, by rw [← HYX.out]; exact HD.out.2, by rw [← HYX.out]⟩, BW.out.drew⟩
          · have e3b : (yst == 3) = false := by simpa using e3
            have HQ := Lib.hid (show ¬ ((⟨yr, ys⟩ : IdD) = ⟨yr, ys⟩ ∧ yst = 3) from fun h => e3 h.2)
            clear e3
            go_wp2
            refine wp_region_g 14 (.one 0 (.one 1 (.one 2 (.one 3 (.one 4 (.one 5 (.act 6 (.one 7 (.one 8 (.one 9 (.one 10 (.one 11 (.one 12 (.one 13 .leaf)))))))))))))) (by kernel_rfl) (by kernel_rfl) ?_
            iterate 4 (refine wpG_quiet rfl (by kernel_rfl) rfl ?_; go_wp2; refine ⟨rfl, ?_⟩)
            refine wpG_quiet rfl (by kernel_rfl) rfl ?_; refine wpList_load_row _ _ rfl [.int .i64 yr, .int .i64 ys] agg_Id rfl HCI.out ?_; go_wp2; refine ⟨rfl, ?_⟩
            refine wpG_quiet rfl (by kernel_rfl) rfl ?_; refine wpList_load_row _ ⟨w.heap.size, 0, none⟩ rfl [.int .i64 yr, .int .i64 ys] agg_Id rfl (blk_cells hsb) ?_; go_wp2; refine ⟨rfl, ?_⟩
            refine wpG_act rfl ?_; go_wp2
            refine ⟨Ext.refl _, ?_⟩
            iterate 1 (refine wpG_quiet rfl (by kernel_rfl) rfl ?_; go_wp2; refine ⟨rfl, ?_⟩)
            iterate 6 (refine wpG_quiet rfl (by kernel_rfl) rfl ?_; go_wp2; refine ⟨rfl, ?_⟩)
            refine wpG_nil ?_; try simp only [List.drop_succ_cons, List.drop_zero]
            go_wp2
            exact ⟨⟨j + 1, by omega, by go_num, HNX.out HQ.out, hsb.drew, BW.out.drew⟩, by simp only [intOf]; omega⟩
        · have e2b : (ys == xs') = false := by simpa using e2
          have e2c : (xs' == ys) = false := by simpa using fun h : xs' = ys => e2 h.symm
          have HQ := Lib.hid (show ¬ ((⟨yr, ys⟩ : IdD) = ⟨yr, xs'⟩ ∧ yst = 3) from fun h => e2 (by injection h.1))
          clear e2
          go_wp2
          refine wp_region_g 14 (.one 0 (.one 1 (.one 2 (.one 3 (.one 4 (.one 5 (.act 6 (.one 7 (.one 8 (.one 9 (.one 10 (.one 11 (.one 12 (.one 13 .leaf)))))))))))))) (by kernel_rfl) (by kernel_rfl) ?_
          iterate 4 (refine wpG_quiet rfl (by kernel_rfl) rfl ?_; go_wp2; refine ⟨rfl, ?_⟩)
          refine wpG_quiet rfl (by kernel_rfl) rfl ?_; refine wpList_load_row _ _ rfl [.int .i64 yr, .int .i64 ys] agg_Id rfl HCI.out ?_; go_wp2; refine ⟨rfl, ?_⟩
          refine wpG_quiet rfl (by kernel_rfl) rfl ?_; refine wpList_load_row _ ⟨w.heap.size, 0, none⟩ rfl [.int .i64 yr, .int .i64 xs'] agg_Id rfl (blk_cells hsb) ?_; go_wp2; refine ⟨rfl, ?_⟩
          refine wpG_act rfl ?_; go_wp2
          refine ⟨Ext.refl _, ?_⟩
          iterate 1 (refine wpG_quiet rfl (by kernel_rfl) rfl ?_; go_wp2; refine ⟨rfl, ?_⟩)
          iterate 6 (refine wpG_skip rfl rfl (by kernel_rfl) ?_; simp only [List.setIfInBounds_toArray, List.set_cons_succ, List.set_cons_zero])
          refine wpG_nil ?_; try simp only [List.drop_succ_cons, List.drop_zero]
          go_wp2
          exact ⟨⟨j + 1, by omega, by go_num, HNX.out HQ.out, hsb.drew, BW.out.drew⟩, by simp only [intOf]; omega⟩
      · have e1b : (yr == xr) = false := by simpa using e1
        have e1c : (xr == yr) = false := by simpa using fun h : xr = yr => e1 h.symm
        have HQ := Lib.hid (show ¬ ((⟨yr, ys⟩ : IdD) = ⟨xr, xs'⟩ ∧ yst = 3) from fun h => e1 (by injection h.1))
        clear e1
        go_wp2
        refine wp_region_g 14 (.one 0 (.one 1 (.one 2 (.one 3 (.one 4 (.one 5 (.act 6 (.one 7 (.one 8 (.one 9 (.one 10 (.one 11 (.one 12 (.one 13 .leaf)))))))))))))) (by kernel_rfl) (by kernel_rfl) ?_
        iterate 4 (refine wpG_quiet rfl (by kernel_rfl) rfl ?_; go_wp2; refine ⟨rfl, ?_⟩)
        refine wpG_quiet rfl (by kernel_rfl) rfl ?_; refine wpList_load_row _ _ rfl [.int .i64 yr, .int .i64 ys] agg_Id rfl HCI.out ?_; go_wp2; refine ⟨rfl, ?_⟩
        refine wpG_quiet rfl (by kernel_rfl) rfl ?_; refine wpList_load_row _ ⟨w.heap.size, 0, none⟩ rfl [.int .i64 xr, .int .i64 xs'] agg_Id rfl (blk_cells hsb) ?_; go_wp2; refine ⟨rfl, ?_⟩
        refine wpG_act rfl ?_; go_wp2
        refine ⟨Ext.refl _, ?_⟩
        iterate 1 (refine wpG_quiet rfl (by kernel_rfl) rfl ?_; go_wp2; refine ⟨rfl, ?_⟩)
        iterate 6 (refine wpG_skip rfl rfl (by kernel_rfl) ?_; simp only [List.setIfInBounds_toArray, List.set_cons_succ, List.set_cons_zero])
        refine wpG_nil ?_; try simp only [List.drop_succ_cons, List.drop_zero]
        go_wp2
        exact ⟨⟨j + 1, by omega, by go_num, HNX.out HQ.out, hsb.drew, BW.out.drew⟩, by simp only [intOf]; omega⟩
    · have hjn : j = n := by omega
      subst hjn
      have HF := Lib.hid (HNO.out (fun i hi => HNJ.out i hi (by have := HN.out; omega)))
      go_wp2
      go_ret
      exact ⟨-1, ret_eq rfl, .inr ⟨rfl, HF.out.1, HF.out.2⟩, BW.out⟩
theorem l12Find_any (xs : List InstD) (x : IdD) (A : Option Addr) (n k : Nat) (cs : List Value) (w : World) (hn : n = xs.length) (hwt : n ≤ 1048576) (hok : instsOkB xs = true) (h : Rep anyB w (.sl 40 16 n (cat InstD.c xs) .nil) [.slice A n k]) (h' : Rep anyB w x.c cs) :
    Calls Try.prog 78 #[.slice A n k, .agg cs.toArray] w fun e w' => ∃ r : Int, e = .returned (.int .i64 r) ∧ ((∃ j, ∃ hj : j < xs.length, r = (j : Int) ∧ comB xs x = true ∧ depsOf xs x = xs[j].deps) ∨ (r = -1 ∧ comB xs x = false ∧ depsOf xs x = [])) ∧ Below w.heap.size w w' :=
  (l12Find_at xs x A n k cs w hn hwt hok h h').mono fun _ _ ⟨r, he, hh, hb⟩ => ⟨r, he, hh.imp (fun ⟨j, hj, h1, h2, h3, _⟩ => ⟨j, hj, h1, h2, h3⟩) id, hb⟩

set_option maxRecDepth 100000 in
set_option maxHeartbeats 4000000 in
theorem l12Deps_any (xs : List InstD) (x : IdD) (A : Option Addr) (n k : Nat) (cs : List Value) (w : World) (hn : n = xs.length) (hwt : n ≤ 1048576) (hok : instsOkB xs = true) (h : Rep anyB w (.sl 40 16 n (cat InstD.c xs) .nil) [.slice A n k]) (h' : Rep anyB w x.c cs) :
    Calls Try.prog 80 #[.slice A n k, .agg cs.toArray] w fun e w' => ∃ A2 m c2, e = .returned (.slice A2 m c2) ∧ m = (depsOf xs x).length ∧ Rep anyB w' (.sl 36 2 m (cat IdD.c (depsOf xs x)) .nil) [.slice A2 m c2] ∧ Below w.heap.size w w' := by
  have HF := Lib.hid (fun W h h' => l12Find_any xs x A n k cs W hn hwt hok h h')
  have hX := h'
  obtain rfl := IdD.open h'
  have HN := Lib.hid hn; clear hn
  have HR := Lib.hid h; clear h
  have HX := Lib.hid hX; clear hX h' hok
  generalize comB xs x = C at HF
  generalize depsOf xs x = D at HF ⊢
  have SB := Lib.hid (blk_new w #[.int .i64 x.rep, .int .i64 x.slot] 36)
  go_enter Try.func80, Try.ntmps80
  go_wp2_with (first | ((with_reducible show wpList _ _ _ ({ dst := _, op := Op.load 36 _, type := _, pos := _, after := _, guard := _ } :: _) _ _); refine wpList_load_row _ ⟨w.heap.size, 0, none⟩ rfl [.int .i64 x.rep, .int .i64 x.slot] agg_Id rfl (blk_cells SB.out) ?_) | fail)
  refine (HF.out _ (HR.out.below (by repeat' (first | with_reducible exact Below.refl _ _ | with_reducible exact BW.out | with_reducible refine Below.setCell ?_ ?_ _ | with_reducible refine Below.alloc ?_ ?_ _ | with_reducible refine Below.drew ?_ | (simp; done) | (simp; omega) | omega))) (HX.out.below (by repeat' (first | with_reducible exact Below.refl _ _ | with_reducible exact BW.out | with_reducible refine Below.setCell ?_ ?_ _ | with_reducible refine Below.alloc ?_ ?_ _ | with_reducible refine Below.drew ?_ | (simp; done) | (simp; omega) | omega)))).mono ?_; rintro e w1 ⟨r, rfl, hr, hb⟩
  have BW := Lib.hid (show Below w.heap.size w w1 from Below.trans (by repeat' (first | with_reducible exact Below.refl _ _ | with_reducible exact BW.out | with_reducible refine Below.setCell ?_ ?_ _ | with_reducible refine Below.alloc ?_ ?_ _ | with_reducible refine Below.drew ?_ | (simp; done) | (simp; omega) | omega)) (hb.mono (by first | (simp; done) | (simp; omega) | omega))); clear hb
  rcases hr with ⟨j, hj, rfl, _, hd⟩ | ⟨rfl, _, hd⟩
  · have HD := Lib.hid hd; clear hd
    have hjn : j < n := by have := HN.out; omega
    obtain ⟨ad, ci, rfl, _, _, hrc, hl, hc⟩ := (HR.out.below BW.out).elem InstD.width j hj HN.out
    obtain ⟨A1, k1, A2, k2, rfl, _, hdr⟩ := InstD.open hrc
    have h14 : w1.cell? ⟨(ad.add (j * 16)).block, (ad.add (j * 16)).off + 14, none⟩ = some (.slice A2 xs[j].deps.length k2) := hc 14 _ rfl
    clear hc hrc hl
    rw [← HD.out] at hdr h14
    have HDR := Lib.hid hdr; clear hdr
    go_wp2
    go_ret
    exact ⟨A2, D.length, k2, ret_eq rfl, rfl, HDR.out, BW.out⟩
  · subst hd
    have HM := Lib.hid (fun v : World => (mine_ids (l := []) (own_nilAt v v.heap.size 36 2 v.heap.size rfl (Nat.le_refl _)) rfl).elim fun F h => h.2.repAny)
    go_wp2
    go_ret
    exact ⟨_, 0, 0, ret_eq rfl, rfl, HM.out w1, BW.out.alloc BW.out.size _⟩

theorem own_cap {w : World} {base e sz n c : Nat} {A : Option Addr} {xs : List Value} (h : w.ownsRow base e sz (.slice A n c) n xs) : n ≤ c := by
  rcases h.2 with ⟨h1, h2⟩ | ⟨g, cap, cur, hv, _, _, hnc, _⟩
  · omega
  · injection hv with _ _ h3
    omega
theorem own_rep {w : World} {base n c : Nat} {A : Option Addr} {l : List IdD} (h : w.ownsRow base 36 2 (.slice A n c) n (idCells l)) (hn : n = l.length) : Rep anyB w (.sl 36 2 n (cat IdD.c l) .nil) [.slice A n c] :=
  (mine_ids h hn).elim fun F h => h.2.repAny
def GoodIds (l : List IdD) : Prop := Asc l ∧ ∀ x ∈ l, idOkB x = true
theorem GoodIds.len {l : List IdD} (h : GoodIds l) : l.length ≤ 18 := ok_len (asc_nodup h.1) h.2
theorem GoodIds.join {a b : List IdD} (h : GoodIds a) (k : GoodIds b) : GoodIds (joinF a b) := ⟨asc_joinF h.1 k.1, fun x hx => (mem_joinF.1 hx).elim (h.2 x) (k.2 x)⟩
theorem deps_good {xs : List InstD} (h : instsOkB xs = true) (y : IdD) : GoodIds (depsOf xs y) := ⟨depsOf_asc h y, depsOf_all h y⟩
theorem iter_next {D : IdD → List IdD} {acc nx T : List IdD} {r : Nat} (hr : r < 18) (hT : iterF D (18 - r) acc = T) (hnx : nx = stepF D acc) : iterF D (18 - (r + 1)) nx = T := by
  subst hnx
  rw [show 18 - r = (18 - (r + 1)) + 1 by omega] at hT
  exact hT
theorem iter_stop {D : IdD → List IdD} {acc nx T : List IdD} {r : Nat} (hT : iterF D r acc = T) (hnx : nx = stepF D acc) (hl : nx.length = acc.length) : acc = T := by
  subst hnx
  have h1 : stepF D acc = acc := (foldJ_ge D acc acc).2 hl
  rw [iter_fix h1] at hT
  exact hT
set_option maxRecDepth 100000 in
set_option maxHeartbeats 4000000 in
theorem l12Reach_any (xs : List InstD) (x : IdD) (A : Option Addr) (n k : Nat) (cs : List Value) (w : World) (hn : n = xs.length) (hwt : n ≤ 1048576) (hok : instsOkB xs = true) (h : Rep anyB w (.sl 40 16 n (cat InstD.c xs) .nil) [.slice A n k]) (h' : Rep anyB w x.c cs) :
    Calls Try.prog 79 #[.slice A n k, .agg cs.toArray] w fun e w' => ∃ A2 m c2, e = .returned (.slice A2 m c2) ∧ m = (reachF (depsOf xs) x).length ∧ w'.ownsRow w.heap.size 36 2 (.slice A2 m c2) m (idCells (reachF (depsOf xs) x)) ∧ Below w.heap.size w w' := by
  have HF := Lib.hid (fun y cs W h h' => l12Deps_any xs y A n k cs W hn hwt hok h h')
  have HG := Lib.hid (fun y => deps_good hok y)
  have hX := h'
  obtain rfl := IdD.open h'
  obtain ⟨T, hT⟩ : ∃ T, T = reachF (depsOf xs) x := ⟨_, rfl⟩
  rw [← hT]
  have HT := Lib.hid (show iterF (depsOf xs) (18 - 0) (depsOf xs x) = T from hT.symm)
  have HR := Lib.hid h; clear h hT
  have HX := Lib.hid hX; clear hX h' hok hn
  obtain ⟨D, hD⟩ : ∃ D, D = depsOf xs := ⟨_, rfl⟩
  rw [← hD] at HF HG HT
  clear hD
  have SB := Lib.hid (blk_new w #[.int .i64 x.rep, .int .i64 x.slot] 36)
  go_enter Try.func79, Try.ntmps79
  go_wp2_with (first | ((with_reducible show wpList _ _ _ ({ dst := _, op := Op.load 36 _, type := _, pos := _, after := _, guard := _ } :: _) _ _); refine wpList_load_row _ ⟨w.heap.size, 0, none⟩ rfl [.int .i64 x.rep, .int .i64 x.slot] agg_Id rfl (blk_cells (SB.out.alloc _)) ?_) | fail)
  have own0 : ((w.alloc (.cells #[.int .i64 x.rep, .int .i64 x.slot] 36)).alloc (.cells #[] 36)).ownsRow w.heap.size 36 2 (.slice (some ⟨w.heap.size + 1, 0, none⟩) 0 0) 0 (idCells []) := own_nilAt _ _ _ _ _ (by simp) (by simp)
  have R0 := Lib.hid own0; clear own0
  refine (HF.out x _ _ (HR.out.below (by repeat' (first | with_reducible exact Below.refl _ _ | with_reducible exact BW.out | with_reducible refine Below.setCell ?_ ?_ _ | with_reducible refine Below.alloc ?_ ?_ _ | with_reducible refine Below.drew ?_ | (simp; done) | (simp; omega) | omega))) (HX.out.below (by repeat' (first | with_reducible exact Below.refl _ _ | with_reducible exact BW.out | with_reducible refine Below.setCell ?_ ?_ _ | with_reducible refine Below.alloc ?_ ?_ _ | with_reducible refine Below.drew ?_ | (simp; done) | (simp; omega) | omega)))).mono ?_; rintro e w1 ⟨A1, m1, c1, rfl, hm1, hd1, hb⟩
  have hg := HG.out x
  have hm18 : m1 ≤ 18 := by rw [hm1]; exact hg.len
  have BW := Lib.hid (show Below w.heap.size w w1 from Below.trans (by repeat' (first | with_reducible exact Below.refl _ _ | with_reducible exact BW.out | with_reducible refine Below.setCell ?_ ?_ _ | with_reducible refine Below.alloc ?_ ?_ _ | with_reducible refine Below.drew ?_ | (simp; done) | (simp; omega) | omega)) (hb.mono (by first | (simp; done) | (simp; omega) | omega)))
  have R1 := Lib.hid ((own_rep R0.out rfl).below hb)
  have HD1 := Lib.hid hd1
  have HM1 := Lib.hid hm1
  have HG1 := Lib.hid hg
  clear hb hd1 hm1 hg R0 SB
  go_wp2_with fail
  refine (l8Join_any [] (D x) _ A1 0 m1 0 c1 _ rfl HM1.out (by omega) (by omega) (Nat.le_refl _) R1.out HD1.out).mono ?_; rintro e w2 ⟨A2, c2, rfl, hown, hb⟩
  rw [joinF_nil] at hown ⊢
  have HO := Lib.hid (ownsRow_keep (base' := w.heap.size) hown (w' := w2) (fun b hb2 => ⟨Nat.le_trans BW.out.size (hown.lt b hb2).1, rfl⟩))
  have BW2 := Lib.hid (BW.out.trans (hb.mono BW.out.size))
  clear hown hb BW R1 HD1
  obtain ⟨d0, hd0⟩ : ∃ d0, d0 = D x := ⟨_, rfl⟩
  rw [← hd0] at HT HO HG1 HM1 ⊢
  clear hd0 HM1
  go_wp2
  go_loopw [5, 6] (fun oo rr wr => ∃ (acc : List IdD) (r q : Nat) (Av : Option Addr) (kv : Nat), r ≤ 18 ∧ q = acc.length ∧ q ≤ 18 ∧ oo = .slice Av q kv ∧ rr = .int .i64 (r : Int) ∧ GoodIds acc ∧ iterF D (18 - r) acc = T ∧ wr.ownsRow w.heap.size 36 2 (.slice Av q kv) q (idCells acc) ∧ Below w.heap.size w wr) (fun _ rr _ => 18 - (intOf rr).toNat)
  case atStart => exact ⟨d0, 0, d0.length, A2, c2, by omega, rfl, HG1.out.len, rfl, rfl, HG1.out, HT.out, HO.out, BW2.out⟩
  case round =>
    obtain ⟨acc, r, q, Av, kv, hr, hq, hq18, rfl, rfl, hga, hit, hown, hbw⟩ := hrel
    clear HT HO BW2 HG1
    have HIT := Lib.hid hit; clear hit
    have HGA := Lib.hid hga; clear hga
    have HO := Lib.hid hown; clear hown
    have BW := Lib.hid hbw; clear hbw
    have HQ := Lib.hid hq; clear hq
    by_cases hlt : r < 18
    · have hrd : decide ((r : Int) < 18) = true := by simp; omega
      go_wp2
      go_loopw [7, 8] (fun nn ii wr => ∃ (nx : List IdD) (i p : Nat) (Bv : Option Addr) (cv : Nat), i ≤ q ∧ p = nx.length ∧ p ≤ 18 ∧ nn = .slice Bv p cv ∧ ii = .int .i64 (i : Int) ∧ GoodIds nx ∧ nx = foldJ D acc (acc.take i) ∧ wr.ownsRow w.heap.size 36 2 (.slice Bv p cv) p (idCells nx) ∧ wr.ownsRow w.heap.size 36 2 (.slice Av q kv) q (idCells acc) ∧ Below w.heap.size w wr) (fun _ ii _ => q - (intOf ii).toNat)
      case atStart => exact ⟨acc, 0, q, Av, kv, by omega, HQ.out, hq18, rfl, rfl, HGA.out, by rw [List.take_zero]; rfl, HO.out, HO.out, BW.out⟩
      case round =>
        clear HO BW
        obtain ⟨nx, i, p, Bv, cv, hi, hp, hp18, rfl, rfl, hgn, hnx, hownn, hown, hbw⟩ := hrel
        have HGN := Lib.hid hgn; clear hgn
        have HNX := Lib.hid hnx; clear hnx
        have HON := Lib.hid hownn; clear hownn
        have HO := Lib.hid hown; clear hown
        have BW := Lib.hid hbw; clear hbw
        have HP := Lib.hid hp; clear hp
        by_cases hli : i < q
        · have hia : i < acc.length := by have := HQ.out; omega
          obtain ⟨ad, cy, rfl, _, _, hrc, hl, hc⟩ := (own_rep HO.out HQ.out).elem IdD.width i hia HQ.out
          obtain rfl := IdD.open hrc
          have hnx2 : joinF nx (D acc[i]) = foldJ D acc (acc.take (i + 1)) := by rw [foldJ_take D acc acc i hia, ← HNX.out]
          have HNX2 := Lib.hid hnx2; clear hnx2
          have HGY := Lib.hid (HG.out acc[i])
          generalize acc[i] = y at *
          have HC := Lib.hid hc
          have HRY := Lib.hid hrc
          clear hc hrc hl
          go_wp2_with (first | ((with_reducible show wpList _ _ _ ({ dst := _, op := Op.load 36 _, type := _, pos := _, after := _, guard := _ } :: _) _ _); refine wpList_load_row _ _ rfl [.int .i64 y.rep, .int .i64 y.slot] agg_Id rfl HC.out ?_) | fail)
          refine (HF.out y _ _ (HR.out.below BW.out) HRY.out).mono ?_; rintro e w3 ⟨A3, m3, c3, rfl, hm3, hd3, hb⟩
          have hm18 : m3 ≤ 18 := by rw [hm3]; exact HGY.out.len
          have R3 := Lib.hid ((own_rep HON.out HP.out).below hb)
          have HO3 := Lib.hid (HO.out.keptBelowJ hb)
          have BW3 := Lib.hid (BW.out.trans (hb.mono BW.out.size))
          have HD3 := Lib.hid hd3
          have HM3 := Lib.hid hm3
          have hcapn := own_cap HON.out
          clear hb hd3 hm3
          go_wp2_with fail
          refine (l8Join_any nx (D y) Bv A3 p m3 cv c3 _ HP.out HM3.out (by omega) (by omega) hcapn R3.out HD3.out).mono ?_; rintro e w4 ⟨A4, c4, rfl, hown4, hb⟩
          have hgj := HGN.out.join HGY.out
          have HO4 := Lib.hid (ownsRow_keep (base' := w.heap.size) hown4 (w' := w4) (fun b hb2 => ⟨Nat.le_trans BW3.out.size (hown4.lt b hb2).1, rfl⟩))
          have HO5 := Lib.hid (HO3.out.keptBelowJ hb)
          have BW4 := Lib.hid (BW3.out.trans (hb.mono BW3.out.size))
          have HGJ := Lib.hid hgj
          clear hown4 hb hgj
          go_wp2
          exact ⟨⟨joinF nx (D y), i + 1, (joinF nx (D y)).length, A4, c4, by omega, rfl, HGJ.out.len, rfl, by go_num, HGJ.out, HNX2.out, HO4.out, HO5.out, BW4.out⟩, by simp only [intOf]; omega⟩
        · have hie : i = q := by omega
          subst hie
          have hst : nx = stepF D acc := by rw [HNX.out, HQ.out, List.take_length]; rfl
          have HST := Lib.hid hst; clear hst
          by_cases hpe : p = i
          · subst hpe
            have hT := iter_stop HIT.out HST.out (by rw [← show p = nx.length from HP.out, ← show p = acc.length from HQ.out])
            have HTT := Lib.hid hT; clear hT
            go_wp2
            go_ret
            exact ⟨Av, p, kv, ret_eq rfl, by rw [← HTT.out]; exact HQ.out, by rw [← HTT.out]; exact HO.out, BW.out⟩
          · have hpb : ((p : Int) == (i : Int)) = false := by simp; omega
            clear hpe
            have HTT := Lib.hid (iter_next hlt HIT.out HST.out)
            go_wp2
            exact ⟨⟨nx, r + 1, p, Bv, cv, by omega, HP.out, hp18, rfl, by go_num, HGN.out, HTT.out, HON.out, BW.out⟩, by simp only [intOf]; omega⟩
    · have hre : r = 18 := by omega
      subst hre
      have hT : acc = T := HIT.out
      have HTT := Lib.hid hT; clear hT
      go_wp2
      go_ret
      exact ⟨Av, q, kv, ret_eq rfl, by rw [← HTT.out]; exact HQ.out, by rw [← HTT.out]; exact HO.out, BW.out⟩


























































end Go.Proofs.Ytoffelfcmfpooaa
namespace Go.Proofs
open Go.Shelf
def Try.sortId_ren : Go.Shelf.Ren := ⟨fun | 6 => 84 | 15 => 76 | 14 => 105 | 28 => 102 | 29 => 103 | 20 => 116 | 21 => 117 | 22 => 118 | 23 => 119 | 24 => 120 | 25 => 121 | 26 => 122 | 27 => 123 | 46 => 127 | 47 => 112 | 48 => 113 | 49 => 128 | 50 => 129 | 57 => 130 | n => n, fun | 22 => 38 | 24 => 36 | 25 => 66 | 3 => 3 | 39 => 90 | 0 => 0 | 53 => 106 | 55 => 108 | 4 => 4 | 46 => 99 | 45 => 98 | 50 => 103 | 5 => 5 | 9 => 9 | 66 => 113 | 70 => 117 | 76 => 124 | 77 => 125 | n => n, fun | n => n⟩
theorem Try.sortId : Go.Proofs.SlLaysF0.n6 Try.prog Try.sortId_ren := {
  mixed := by kernel_rfl
  f6 := ⟨Try.f84.name, by decide, Try.func84.trans (congrArg some (by kernel_rfl))⟩
  f14 := ⟨Try.f105.name, by decide, Try.func105.trans (congrArg some (by kernel_rfl))⟩
  f15 := Try.func76.trans (congrArg some (by kernel_rfl))
  f20 := ⟨Try.f116.name, by decide, Try.func116.trans (congrArg some (by kernel_rfl))⟩
  f21 := ⟨Try.f117.name, by decide, Try.func117.trans (congrArg some (by kernel_rfl))⟩
  f22 := ⟨Try.f118.name, by decide, Try.func118.trans (congrArg some (by kernel_rfl))⟩
  f23 := ⟨Try.f119.name, by decide, Try.func119.trans (congrArg some (by kernel_rfl))⟩
  f24 := ⟨Try.f120.name, by decide, Try.func120.trans (congrArg some (by kernel_rfl))⟩
  f25 := ⟨Try.f121.name, by decide, Try.func121.trans (congrArg some (by kernel_rfl))⟩
  f26 := ⟨Try.f122.name, by decide, Try.func122.trans (congrArg some (by kernel_rfl))⟩
  f27 := ⟨Try.f123.name, by decide, Try.func123.trans (congrArg some (by kernel_rfl))⟩
  f28 := Try.func102.trans (congrArg some (by kernel_rfl))
  f29 := Try.func103.trans (congrArg some (by kernel_rfl))
  f46 := ⟨Try.f127.name, by decide, Try.func127.trans (congrArg some (by kernel_rfl))⟩
  f47 := Try.func112.trans (congrArg some (by kernel_rfl))
  f48 := Try.func113.trans (congrArg some (by kernel_rfl))
  f49 := ⟨Try.f128.name, by decide, Try.func128.trans (congrArg some (by kernel_rfl))⟩
  f50 := ⟨Try.f129.name, by decide, Try.func129.trans (congrArg some (by kernel_rfl))⟩
  f57 := ⟨Try.f130.name, by decide, Try.func130.trans (congrArg some (by kernel_rfl))⟩
  t0 := Try.underlying0
  a0 := Try.isAgg0
  z0 := Try.sizeOf0
  v0 := Try.zeroValue0
  t3 := Try.underlying3
  a3 := Try.isAgg3
  z3 := Try.sizeOf3
  v3 := Try.zeroValue3
  t4 := Try.underlying4
  a4 := Try.isAgg4
  z4 := Try.sizeOf4
  v4 := Try.zeroValue4
  t5 := Try.underlying5
  a5 := Try.isAgg5
  z5 := Try.sizeOf5
  v5 := Try.zeroValue5
  t9 := Try.underlying9
  a9 := Try.isAgg9
  z9 := Try.sizeOf9
  v9 := Try.zeroValue9
  t22 := Try.underlying38
  a22 := Try.isAgg38
  z22 := Try.sizeOf38
  v22 := Try.zeroValue38
  t25 := Try.underlying66
  a25 := Try.isAgg66
  z25 := Try.sizeOf66
  v25 := Try.zeroValue66
  t39 := Try.underlying90
  a39 := Try.isAgg90
  z39 := Try.sizeOf90
  v39 := Try.zeroValue90
  t45 := Try.underlying98
  a45 := Try.isAgg98
  z45 := Try.sizeOf98
  v45 := Try.zeroValue98
  t46 := Try.underlying99
  a46 := Try.isAgg99
  z46 := Try.sizeOf99
  v46 := Try.zeroValue99
  t50 := Try.underlying103
  a50 := Try.isAgg103
  z50 := Try.sizeOf103
  v50 := Try.zeroValue103
  t53 := Try.underlying106
  a53 := Try.isAgg106
  z53 := Try.sizeOf106
  v53 := Try.zeroValue106
  t55 := Try.underlying108
  a55 := Try.isAgg108
  z55 := Try.sizeOf108
  v55 := Try.zeroValue108
  t66 := Try.underlying113
  a66 := Try.isAgg113
  z66 := Try.sizeOf113
  v66 := Try.zeroValue113
  t70 := Try.underlying117
  a70 := Try.isAgg117
  z70 := Try.sizeOf117
  v70 := Try.zeroValue117
  t76 := Try.underlying124
  a76 := Try.isAgg124
  z76 := Try.sizeOf124
  v76 := Try.zeroValue124
  t77 := Try.underlying125
  a77 := Try.isAgg125
  z77 := Try.sizeOf125
  v77 := Try.zeroValue125 }
end Go.Proofs
namespace Go.Proofs.Ytoffelfcmfpooaa
open Go.RowKit Go.Shelf Go.Lib Go.Sort

set_option maxRecDepth 100000 in
set_option maxHeartbeats 1000000 in
theorem compareIds_exact (x y : IdD) (w : World) :
    Calls Try.prog 42 #[.agg #[.int .i64 x.rep, .int .i64 x.slot], .agg #[.int .i64 y.rep, .int .i64 y.slot]] w fun e w' => e = .returned (.int .i64 (idCmp x y)) ∧ ∃ (q : Nat) (os' : Array Obj), w' = grow (w.drewN q) os' := by
  obtain ⟨xr, xs⟩ := x
  obtain ⟨yr, ys⟩ := y
  have hid : idLt ⟨xr, xs⟩ ⟨yr, ys⟩ = decide (xr < yr ∨ xr = yr ∧ xs < ys) := rfl
  have HI := Lib.hid hid; clear hid
  simp only []
  by_cases h1 : xr < yr
  · have HR := Lib.hid (show idCmp ⟨xr, xs⟩ ⟨yr, ys⟩ = -1 by rw [idCmp, if_pos (by rw [HI.out]; simp [h1])])
    go_enter Try.func42, Try.ntmps42
    go_wp2
    go_ret
    exact ⟨ret_eq (by rw [HR.out]; rfl), ⟨0, _, by rw [alloc_eq_grow, alloc_eq_grow, grow_grow]; rfl⟩⟩
  · by_cases h2 : xr = yr
    · subst h2
      clear h1
      by_cases h3 : xs < ys
      · have HR := Lib.hid (show idCmp ⟨xr, xs⟩ ⟨xr, ys⟩ = -1 by rw [idCmp, if_pos (by rw [HI.out]; simp [h3])])
        go_enter Try.func42, Try.ntmps42
        go_wp2
        go_ret
        exact ⟨ret_eq (by rw [HR.out]; rfl), ⟨0, _, by rw [alloc_eq_grow, alloc_eq_grow, grow_grow]; rfl⟩⟩
      · by_cases h4 : xs = ys
        · subst h4
          have HR := Lib.hid (show idCmp ⟨xr, xs⟩ ⟨xr, xs⟩ = 0 by rw [idCmp, if_neg (by rw [HI.out]; simp), if_pos rfl])
          clear h3
          go_enter Try.func42, Try.ntmps42
          go_wp2
          go_ret
          exact ⟨ret_eq (by rw [HR.out]; rfl), ⟨0, _, by rw [alloc_eq_grow, alloc_eq_grow, grow_grow]; rfl⟩⟩
        · have HR := Lib.hid (show idCmp ⟨xr, xs⟩ ⟨xr, ys⟩ = 1 by rw [idCmp, if_neg (by rw [HI.out]; simp; omega), if_neg (by simp [h4])])
          have h5 : (xs == ys) = false := by simpa using h4
          clear h4
          go_enter Try.func42, Try.ntmps42
          go_wp2
          go_ret
          exact ⟨ret_eq (by rw [HR.out]; rfl), ⟨0, _, by rw [alloc_eq_grow, alloc_eq_grow, grow_grow]; rfl⟩⟩
    · have HR := Lib.hid (show idCmp ⟨xr, xs⟩ ⟨yr, ys⟩ = 1 by rw [idCmp, if_neg (by rw [HI.out]; simp; omega), if_neg (by simp [h2])])
      have h3 : (xr == yr) = false := by simpa using h2
      clear h2
      go_enter Try.func42, Try.ntmps42
      go_wp2
      go_ret
      exact ⟨ret_eq (by rw [HR.out]; rfl), ⟨0, _, by rw [alloc_eq_grow, alloc_eq_grow, grow_grow]; rfl⟩⟩
def encId (x : IdD) : List Value := [.int .i64 x.rep, .int .i64 x.slot]
instance : Inhabited IdD := ⟨⟨0, 0⟩⟩
theorem ltOf_id (x y : IdD) : ltOf idCmp x y = idLt x y := by
  unfold ltOf
  cases h : idLt x y with
  | true => exact decide_eq_true (idCmp_lt.2 h)
  | false => exact decide_eq_false (fun hh => by have := idCmp_lt.1 hh; rw [h] at this; cases this)
theorem swo_id : SWO (ltOf idCmp) where
  irrefl x := by rw [ltOf_id]; exact idLt_irrefl x
  trans x y z h1 h2 := by rw [ltOf_id] at *; exact idLt_trans h1 h2
  ntrans x y z h1 h2 := by rw [ltOf_id] at *; exact idLt_ntrans h1 h2
theorem cmpLays_id (blk off size : Nat) (w : World) : CmpLays Try.prog 42 #[] encId 2 idCmp blk off size w :=
  fun _ _ _ _ x y => compareIds_exact x y _
theorem sort_ids (blk off cap : Nat) (d : Array IdD) (w : World) (hH : HoldsK encId 2 w blk off d) (hblk : blk < w.heap.size) (hsz : d.size < 4611686018427387904) :
    Calls Try.prog 84 #[.slice (some ⟨blk, off, none⟩) d.size cap, .func (.func 42) #[] #[]] w fun e w' =>
      e = .returned (.tuple #[]) ∧ ∃ d' n os, PermIn 0 d.size d d' ∧ SortedIn (ltOf idCmp) 0 d.size d' ∧ w' = sortWorldK encId 2 w blk off n d' os :=
  AnyQ.slices_SortFunc Try.sortId 2 (fun w => agg_Id.isAgg w) (fun w => agg_Id.size w) encId (fun _ => rfl) (fun x v hv => by simp [encId] at hv; rcases hv with rfl | rfl <;> rfl) idCmp swo_id 42 #[] blk off cap d w (enters_of Try.func42 (by kernel_rfl) rfl) (cmpLays_id blk off d.size w) hH hblk hsz

end Go.Proofs.Ytoffelfcmfpooaa
namespace Go.Proofs.Ytoffelfcmfpooaa
open Go.RowKit Go.Shelf Go.Lib Go.Sort

theorem idCells_get : ∀ (xs : List IdD) (j : Nat), j < xs.length * 2 → (idCells xs)[j]? = some ((encId xs[j / 2]!)[j % 2]!)
  | [], j, h => by simp at h
  | x :: r, 0, _ => rfl
  | x :: r, 1, _ => rfl
  | x :: r, j + 2, h => by
    have ih := idCells_get r j (by simp only [List.length_cons] at h; omega)
    rw [idCells, List.getElem?_cons_succ, List.getElem?_cons_succ, ih, show (j + 2) / 2 = j / 2 + 1 by omega, show (j + 2) % 2 = j % 2 by omega]
    rfl
theorem flat_ids (d : Array IdD) (j : Nat) (h : j < d.size * 2) : (idCells d.toList)[j]? = some ((flatK encId 2 d)[j]!) := by
  rw [idCells_get _ _ (by simpa using h), get_flatK _ _ _ _ h]
  have e : d.toList[j / 2]! = d[j / 2]! := by
    have hj : j / 2 < d.size := by omega
    rw [List.getElem!_eq_getElem?_getD, getElem!_pos d (j / 2) hj]
    simp [hj]
  rw [e]
theorem holds_own {w : World} {base g n c : Nat} {d : Array IdD} (hn : n = d.size) (h : w.ownsRow base 36 2 (.slice (some ⟨g, 0, none⟩) n c) n (idCells d.toList)) : HoldsK encId 2 w g 0 d := by
  intro j hj
  rw [size_flatK] at hj
  refine ⟨?_, ?_⟩
  · have := World.ownsRow.cells (g := g) h rfl j _ (flat_ids d j hj)
    rw [add_plain, Nat.zero_add] at this
    rw [Nat.zero_add]
    exact this
  · rw [Nat.zero_add]
    exact h.frozenAt j
theorem own_put {w : World} {base g n c : Nat} {xs : List Value} {d : Array IdD} (hn : n = d.size) (h : w.ownsRow base 36 2 (.slice (some ⟨g, 0, none⟩) n c) n xs) :
    (putRowK encId 2 w g 0 d).ownsRow base 36 2 (.slice (some ⟨g, 0, none⟩) n c) n (idCells d.toList) := by
  refine ⟨by rw [idCells_length]; simp [hn], ?_⟩
  rcases h.2 with ⟨h0, _⟩ | ⟨g', cap, cur, hv, hb, hh, hnc, hcm, hcs, _⟩
  · cases h0
  · injection hv with e1 e2 e3
    injection e1 with e1
    injection e1 with e1
    subst e1 e3
    refine .inr ⟨g, c, putCells id 0 (flatK encId 2 d) cur, rfl, hb, ?_, hnc, hcm, by simp [putCells, hcs], ?_⟩
    · show ((w.heap.modify g (onCells (putCells id 0 (flatK encId 2 d)))))[g]? = _
      rw [Array.getElem?_modify, if_pos rfl, hh]
      rfl
    · apply List.ext_getElem?
      intro j
      by_cases hj : j < n * 2
      · rw [flat_ids d j (by omega), List.getElem?_take_of_lt hj]
        have hjc : j < cur.size := by rw [hcs]; have := Nat.mul_le_mul_right 2 hnc; omega
        simp only [putCells, Array.getElem?_toList, Array.getElem?_mapIdx, Array.getElem?_eq_getElem hjc, Option.map_some]
        rw [if_pos (by simp; omega)]
        simp
      · rw [List.getElem?_eq_none (by simp; omega), List.getElem?_eq_none (by rw [idCells_length]; simp; omega)]
theorem own_sorted {w : World} {base g n c m : Nat} {xs : List Value} {d : Array IdD} {os : Array Obj} (hn : n = d.size) (hg : g < w.heap.size) (h : w.ownsRow base 36 2 (.slice (some ⟨g, 0, none⟩) n c) n xs) :
    (sortWorldK encId 2 w g 0 m d os).ownsRow base 36 2 (.slice (some ⟨g, 0, none⟩) n c) n (idCells d.toList) ∧ w.grownBy (sortWorldK encId 2 w g 0 m d os) (some g) := by
  have h1 : (putRowK encId 2 (Sort.ahead w m) g 0 d).ownsRow base 36 2 (.slice (some ⟨g, 0, none⟩) n c) n (idCells d.toList) := own_put hn h
  have hsz : (putRowK encId 2 (Sort.ahead w m) g 0 d).heap.size = w.heap.size := by simp [putRowK, putRow, mapBlock, Sort.ahead]
  have hap : ∀ b, b < w.heap.size → (sortWorldK encId 2 w g 0 m d os).heap[b]? = (putRowK encId 2 (Sort.ahead w m) g 0 d).heap[b]? := fun b hb => by
    show ((putRowK encId 2 (Sort.ahead w m) g 0 d).heap ++ os)[b]? = _
    rw [Array.getElem?_append_left (by rw [hsz]; exact hb)]
  refine ⟨ownsRow_keep h1 (fun b hk => ⟨(h1.lt b hk).1, hap b (by rw [← hsz]; exact (h1.lt b hk).2)⟩), ⟨rfl, rfl, rfl, ?_, fun b hb hne => ?_⟩⟩
  · show w.heap.size ≤ ((putRowK encId 2 (Sort.ahead w m) g 0 d).heap ++ os).size
    rw [Array.size_append, hsz]; omega
  · rw [hap b hb]
    show (w.heap.modify g _)[b]? = _
    rw [Array.getElem?_modify, if_neg (fun e => hne (congrArg some e.symm))]
theorem sort_own (base g n c : Nat) (xs : List IdD) (w : World) (hn : n = xs.length) (hn1 : n ≤ 4194304) (h : w.ownsRow base 36 2 (.slice (some ⟨g, 0, none⟩) n c) n (idCells xs)) :
    Calls Try.prog 84 #[.slice (some ⟨g, 0, none⟩) n c, .func (.func 42) #[] #[]] w fun e w' =>
      e = .returned (.tuple #[]) ∧ ∃ ys : List IdD, ys.Perm xs ∧ Wk ys ∧ w'.ownsRow base 36 2 (.slice (some ⟨g, 0, none⟩) n c) n (idCells ys) ∧ w.grownBy w' (some g) := by
  subst hn
  have hg := (h.lt g rfl).2
  have hc := sort_ids g 0 c xs.toArray w (holds_own (c := c) (base := base) rfl (by simpa using h)) hg (by simp; omega)
  simp only [List.size_toArray] at hc
  refine hc.mono ?_
  rintro e w' ⟨rfl, d', m, os, hp, hs, rfl⟩
  have hsz : d'.size = xs.length := by have := hp.1; simpa using this
  have ho := own_sorted (m := m) (os := os) (d := d') hsz.symm hg h
  refine ⟨rfl, d'.toList, ?_, ?_, ho.1, ho.2⟩
  · have := hp.2.2
    rw [show d'.extract 0 xs.length = d' from by rw [← hsz]; simp, show xs.toArray.extract 0 xs.length = xs.toArray from by simp] at this
    simpa using this
  · refine List.pairwise_iff_getElem.2 fun i j hi hj hij => ?_
    have := hs i j (Nat.zero_le _) hij (by simpa [hsz] using hj)
    rw [ltOf_id] at this
    have e1 : d'[i]! = d'.toList[i] := by rw [getElem!_pos d' i (by simpa using hi)]; simp
    have e2 : d'[j]! = d'.toList[j] := by rw [getElem!_pos d' j (by simpa using hj)]; simp
    rw [e1, e2] at this
    exact this

end Go.Proofs.Ytoffelfcmfpooaa
namespace Go.Proofs.Ytoffelfcmfpooaa
open Go.RowKit

structure QRow (w : World) (base g off n c : Nat) (xs : List IdD) : Prop where
  len : n = xs.length
  base_le : base ≤ g
  row : ∃ cur : Array Value, Blk w g 36 cur ∧ n ≤ c ∧ c ≤ maxLen ∧ off + c * 2 ≤ cur.size ∧ ∀ j, j < n * 2 → cur[off + j]? = (idCells xs)[j]?
theorem QRow.cells {w : World} {base g off n c : Nat} {xs : List IdD} (h : QRow w base g off n c xs) : ∀ j u, (idCells xs)[j]? = some u → w.cell? ⟨g, off + j, none⟩ = some u := fun j u hu => by
  obtain ⟨cur, hb, _, _, _, hc⟩ := h.row
  have hj : j < n * 2 := by
    have := (List.getElem?_eq_some_iff.1 hu).1
    rw [idCells_length] at this
    rw [h.len]; exact this
  rw [hb.cell, hc j hj]
  exact hu
theorem QRow.keep {w w' : World} {base g off n c : Nat} {xs : List IdD} (h : QRow w base g off n c xs) (hk : w'.heap[g]? = w.heap[g]?) : QRow w' base g off n c xs := by
  obtain ⟨cur, hb, h1⟩ := h.row
  exact ⟨h.len, h.base_le, cur, hb.keep hk, h1⟩
theorem QRow.lt {w : World} {base g off n c : Nat} {xs : List IdD} (h : QRow w base g off n c xs) : g < w.heap.size := by
  obtain ⟨cur, hb, _⟩ := h.row
  exact hb.lt
theorem QRow.cap {w : World} {base g off n c : Nat} {xs : List IdD} (h : QRow w base g off n c xs) : n ≤ c := by
  obtain ⟨cur, hb, h1, _⟩ := h.row
  exact h1
theorem QRow.below {w w' : World} {base g off n c : Nat} {xs : List IdD} (h : QRow w base g off n c xs) (hb : Below w.heap.size w w') : QRow w' base g off n c xs := h.keep (hb.block g h.lt)
/-- the first one taken off -/
theorem QRow.pop {w : World} {base g off n c : Nat} {x : IdD} {xs : List IdD} (h : QRow w base g off (n + 1) (c + 1) (x :: xs)) : QRow w base g (off + 2) n c xs := by
  obtain ⟨cur, hb, h1, h2, h3, h4⟩ := h.row
  refine ⟨by have := h.len; simp only [List.length_cons] at this; omega, h.base_le, cur, hb, by omega, by omega, by omega, fun j hj => ?_⟩
  have := h4 (j + 2) (by omega)
  rw [show off + (j + 2) = off + 2 + j by omega] at this
  rw [this, idCells]
  rfl
/-- the last one taken off, and there is no room behind it -/
theorem QRow.pop1 {w : World} {base g off : Nat} {x : IdD} {xs : List IdD} (h : QRow w base g off 1 1 (x :: xs)) : QRow w base g off 0 0 xs := by
  obtain ⟨cur, hb, h1, h2, h3, h4⟩ := h.row
  exact ⟨by have := h.len; simp only [List.length_cons] at this; omega, h.base_le, cur, hb, by omega, by omega, by omega, fun j hj => by omega⟩
theorem qrow_of {w : World} {base g n c : Nat} {xs : List IdD} (hn : n = xs.length) (h : w.ownsRow base 36 2 (.slice (some ⟨g, 0, none⟩) n c) n (idCells xs)) : QRow w base g 0 n c xs := by
  rcases h.2 with ⟨h1, _⟩ | ⟨g', cap, cur, hv, hb, hg, hnc, hcm, hs, ht⟩
  · cases h1
  · injection hv with e1 e2 e3
    injection e1 with e1
    injection e1 with e1
    subst e1 e3
    refine ⟨hn, hb, cur, hg, hnc, hcm, by omega, fun j hj => ?_⟩
    rw [← ht, List.getElem?_take_of_lt hj, Nat.zero_add, Array.getElem?_toList]
section
variable {P : Program} {T : TypeId} {z : Value} {bytes : Nat}
theorem wpList_qapp (E : Elem P T 36 z 2 bytes) (w : World) {ops : Array Oper} {rest : List Oper} {o : Oper} {a : Act} {Q : Exit → Act → World → Prop} (hgd : o.guard = none) (s x : Operand)
    (ho : o.op = .call { callee := .builtin .append, args := #[s, x], argTypes := #[T, T] }) (base g off n c : Nat)
    (xs : List IdD) (hs : a.eval s = .slice (some ⟨g, off, none⟩) n c) (hown : QRow w base g off n c xs)
    (ad : Addr) (k : Nat) (y : IdD) (hx : a.eval x = .slice (some ad) 1 k) (hr : ∀ j u, [Value.int .i64 y.rep, Value.int .i64 y.slot][j]? = some u → w.cell? (ad.add j) = some u)
    (hbytes : (n + 1) * bytes ≤ 140737488355328) (hbase : base ≤ w.heap.size)
    (h : ∀ g' off' c' w', QRow w' base g' off' (n + 1) c' (xs ++ [y]) → w.grownBy w' (some g) → (g' = g ∨ w.heap.size ≤ g') → wpList P ops Q rest (a.put o.dst (.slice (some ⟨g', off', none⟩) (n + 1) c')) w') : wpList P ops Q (o :: rest) a w := by
  obtain ⟨i, hi, hz, hs1, hb1⟩ := info_parts E.hi
  have hbnd := Nat.le_mul_of_pos_right (n + 1) E.hb
  have hlen : (idCells xs).length = n * 2 := by rw [idCells_length, ← hown.len]
  refine wpList_append_arg w hgd s x T ho 36 i z 2 bytes E.ht hi hz hs1 hb1 E.hzs E.hsz g off n c (idCells xs) hs hlen hown.cells ad 1 k [.int .i64 y.rep, .int .i64 y.slot] hx rfl hr (by intro u hu; simp only [List.mem_cons, List.not_mem_nil, or_false] at hu; rcases hu with rfl | rfl <;> rfl) ?_ (by simp only [maxLen]; omega) hbytes ?_ ?_
  · intro hroom j hj
    obtain ⟨cur, hb, h1, h2, h3, h4⟩ := hown.row
    have hj2 : j < 2 := hj
    rw [hb.cell, hb.frozen]
    refine ⟨?_, rfl⟩
    rw [Array.getElem?_eq_getElem (by omega)]
    rfl
  · intro hroom
    refine h g off c _ ?_ ?_ (.inl rfl)
    · obtain ⟨cur, hb, h1, h2, h3, h4⟩ := hown.row
      refine ⟨by rw [List.length_append, ← hown.len]; rfl, hown.base_le, _, (hb.set (off + n * 2) (.int .i64 y.rep)).set (off + n * 2 + 1) (.int .i64 y.slot), hroom, h2, by simp; omega, fun j hj => ?_⟩
      rw [idCells_app]
      rcases Nat.lt_or_ge j (n * 2) with hj2 | hj2
      · rw [Array.getElem?_setIfInBounds_ne (by omega), Array.getElem?_setIfInBounds_ne (by omega), List.getElem?_append_left (by omega)]
        exact h4 j hj2
      · rw [List.getElem?_append_right (by omega), hlen]
        have hjj : j = n * 2 ∨ j = n * 2 + 1 := by omega
        rcases hjj with rfl | rfl
        · rw [Array.getElem?_setIfInBounds_ne (by omega), Array.getElem?_setIfInBounds_self_of_lt (by omega), Nat.sub_self]
          rfl
        · rw [← Nat.add_assoc, Array.getElem?_setIfInBounds_self_of_lt (by simp; omega), show n * 2 + 1 - n * 2 = 1 by omega]
          rfl
    · refine ⟨rfl, rfl, rfl, by simp [World.setCells, World.setCell], fun b hb hn => ?_⟩
      show ((w.setCell _ _).setCell _ _).heap[b]? = _
      rw [Below.heap_setCell _ _ _ _ (fun e => hn (by rw [e])), Below.heap_setCell _ _ _ _ (fun e => hn (by rw [e]))]
  · intro hgrow v' w' ho' hg'
    have hown2 : w'.ownsRow w.heap.size 36 2 v' (n + 1) (idCells (xs ++ [y])) := by rw [idCells_app]; exact ho'
    rcases ho'.2 with ⟨_, h0⟩ | ⟨g', cap, cur, hv, hb, hh, hnc, _⟩
    · omega
    · subst hv
      have hq := qrow_of (by rw [List.length_append, ← hown.len]; rfl) hown2
      exact h g' 0 cap w' ⟨hq.len, Nat.le_trans hbase hb, hq.row⟩ ⟨hg'.os, hg'.tape, hg'.output, hg'.size, fun k hk _ => hg'.block k hk (by simp)⟩ (.inr hb)
end

end Go.Proofs.Ytoffelfcmfpooaa
namespace Go.Proofs.Ytoffelfcmfpooaa
open Go.RowKit

theorem compactF_cons {a b : IdD} {r : List IdD} : compactF (a :: b :: r) = if a = b then compactF (b :: r) else a :: compactF (b :: r) := by rw [compactF]
theorem compactF_one (a : IdD) : compactF [a] = [a] := by rw [compactF]
theorem compactF_snoc (x y : IdD) : ∀ xs : List IdD, compactF (xs ++ [x, y]) = if x = y then compactF (xs ++ [x]) else compactF (xs ++ [x]) ++ [y]
  | [] => by
    show compactF [x, y] = if x = y then compactF [x] else compactF [x] ++ [y]
    rw [compactF_cons, compactF_one, compactF_one]
    split
    · rename_i h; rw [h]
    · rfl
  | [a] => by
    show compactF [a, x, y] = if x = y then compactF [a, x] else compactF [a, x] ++ [y]
    rw [compactF_cons, compactF_cons (a := a) (b := x) (r := []), compactF_cons (a := x) (b := y) (r := []), compactF_one, compactF_one]
    by_cases h1 : a = x <;> by_cases h2 : x = y <;> simp [h1, h2]
  | a :: b :: r => by
    have ih := compactF_snoc x y (b :: r)
    simp only [List.cons_append] at ih ⊢
    rw [compactF_cons, compactF_cons (a := a), ih]
    by_cases h1 : a = b <;> by_cases h2 : x = y <;> simp [h1, h2]
/-- one element more -/
theorem compactF_take {xs : List IdD} {m : Nat} (h0 : 0 < m) (hm : m < xs.length) : compactF (xs.take (m + 1)) = if xs[m - 1] = xs[m] then compactF (xs.take m) else compactF (xs.take m) ++ [xs[m]] := by
  obtain ⟨k, rfl⟩ : ∃ k, m = k + 1 := ⟨m - 1, by omega⟩
  have h := compactF_snoc xs[k] xs[k + 1] (xs.take k)
  have e1 : xs.take k ++ [xs[k], xs[k + 1]] = xs.take (k + 1 + 1) := by
    have a1 := List.take_succ_eq_append_getElem hm
    have a2 := List.take_succ_eq_append_getElem (show k < xs.length by omega)
    rw [a1, a2, List.append_assoc]
    rfl
  have e2 : xs.take k ++ [xs[k]] = xs.take (k + 1) := (List.take_succ_eq_append_getElem (show k < xs.length by omega)).symm
  rw [e1, e2] at h
  simpa using h
theorem compactF_len : ∀ (xs : List IdD), (compactF xs).length ≤ xs.length
  | [] => by rw [compactF]; exact Nat.le_refl _
  | [a] => by rw [compactF]; exact Nat.le_refl _
  | a :: b :: r => by
    have := compactF_len (b :: r)
    rw [compactF_cons]
    split
    · simp only [List.length_cons] at *; omega
    · simp only [List.length_cons] at *; omega

end Go.Proofs.Ytoffelfcmfpooaa
namespace Go.Proofs.Ytoffelfcmfpooaa
open Go.RowKit Go.Shelf Go.Lib

theorem idCells_take : ∀ (xs : List IdD) (i : Nat), (idCells xs).take (i * 2) = idCells (xs.take i)
  | xs, 0 => by simp [idCells]
  | [], i + 1 => by simp [idCells]
  | x :: xs, i + 1 => by
    rw [List.take_succ_cons, idCells, show (i + 1) * 2 = i * 2 + 2 by omega]
    show _ :: _ :: (idCells xs).take (i * 2) = _
    rw [idCells_take xs i]
    rfl
structure CompSt (w : World) (g c : Nat) (xs : List IdD) (m k : Nat) : Prop where
  lt : k < m
  le : m ≤ xs.length
  cap : xs.length ≤ c
  len : k = (compactF (xs.take m)).length
  row : ∃ cur : Array Value, Blk w g 36 cur ∧ cur.size = c * 2 ∧ cur.toList.take (k * 2) = idCells (compactF (xs.take m)) ∧ ∀ j, (m - 1) * 2 ≤ j → j < xs.length * 2 → cur[j]? = (idCells xs)[j]?
theorem CompSt.cell {w : World} {g c m k : Nat} {xs : List IdD} (h : CompSt w g c xs m k) (j : Nat) (hm : m ≤ j + 1) (hj : j < xs.length) : ∀ (u : Nat) (v : Value), [Value.int .i64 xs[j].rep, Value.int .i64 xs[j].slot][u]? = some v → w.cell? ((⟨g, j * 2, none⟩ : Addr).add u) = some v := by
  intro u v hv
  obtain ⟨cur, hb, _, _, hc⟩ := h.row
  have hu : u < 2 := by
    rcases Nat.lt_or_ge u 2 with h | h
    · exact h
    · rw [List.getElem?_eq_none (by simpa using h)] at hv; cases hv
  rw [add_plain, hb.cell, hc _ (by have := h.lt; omega) (by omega), idCells_get xs _ (by omega), show (j * 2 + u) / 2 = j by omega, show (j * 2 + u) % 2 = u by omega]
  have e : xs[j]! = xs[j] := getElem!_pos xs j hj
  rw [e]
  have : u = 0 ∨ u = 1 := by omega
  rcases this with rfl | rfl <;> simpa [encId] using hv
theorem CompSt.drew {w : World} {g c m k : Nat} {xs : List IdD} (h : CompSt w g c xs m k) : CompSt w.drew g c xs m k := ⟨h.lt, h.le, h.cap, h.len, h.row⟩
theorem CompSt.skip {w : World} {g c m k : Nat} {xs : List IdD} (h : CompSt w g c xs m k) (hm : m < xs.length) (he : xs[m - 1]'(by have := h.lt; omega) = xs[m]) : CompSt w g c xs (m + 1) k := by
  have hl := h.lt
  have e := compactF_take (xs := xs) (m := m) (by omega) hm
  rw [if_pos he] at e
  obtain ⟨cur, hb, hs, ht, hc⟩ := h.row
  exact ⟨by omega, hm, h.cap, by rw [e]; exact h.len, cur, hb, hs, by rw [e]; exact ht, fun j h1 h2 => hc j (by omega) h2⟩
theorem CompSt.split {w : World} {g c m k : Nat} {xs : List IdD} (h : CompSt w g c xs m k) (hm : m < xs.length) : ∃ (A M C : List Value) (cur : Array Value), Blk w g 36 cur ∧ cur.toList = A ++ (M ++ C) ∧ A.length = k * 2 ∧ M.length = 2 ∧
    (xs[m - 1]'(by have := h.lt; omega) ≠ xs[m] → ∀ w', Blk w' g 36 (A ++ ([Value.int .i64 xs[m].rep, Value.int .i64 xs[m].slot] ++ C)).toArray → CompSt w' g c xs (m + 1) (k + 1)) := by
  have hl := h.lt
  have hcap := h.cap
  obtain ⟨cur, hb, hs, ht, hc⟩ := h.row
  have hsz : cur.toList.length = c * 2 := by simpa using hs
  refine ⟨cur.toList.take (k * 2), (cur.toList.drop (k * 2)).take 2, (cur.toList.drop (k * 2)).drop 2, cur, hb, by rw [List.take_append_drop, List.take_append_drop], by rw [List.length_take]; omega, by rw [List.length_take, List.length_drop]; omega, fun hne w' hb' => ?_⟩
  have e := compactF_take (xs := xs) (m := m) (by omega) hm
  rw [if_neg hne] at e
  have hAl : (cur.toList.take (k * 2)).length = k * 2 := by rw [List.length_take]; omega
  refine ⟨by omega, hm, hcap, by rw [e, List.length_append, ← h.len]; rfl, _, hb', ?_, ?_, fun j h1 h2 => ?_⟩
  · simp only [List.size_toArray, List.length_append, List.length_take, List.length_drop, List.length_cons, List.length_nil]
    omega
  · show List.take ((k + 1) * 2) (_ ++ _) = _
    rw [e, idCells_app, List.take_append, hAl, List.take_of_length_le (by rw [hAl]; omega), ht, show (k + 1) * 2 - k * 2 = 2 by omega]
    rfl
  · have h3 := hc j (by omega) h2
    rw [← h3]
    show ((cur.toList.take (k * 2)) ++ (_ ++ _)).toArray[j]? = _
    rw [List.getElem?_toArray, List.getElem?_append_right (by rw [hAl]; omega), hAl, List.getElem?_append_right (by simp; omega), List.getElem?_drop, List.getElem?_drop]
    simp only [List.length_cons, List.length_nil]
    rw [show k * 2 + (0 + 1 + 1 + (j - k * 2 - (0 + 1 + 1))) = j by omega, Array.getElem?_toList]
    
theorem CompSt.start {w : World} {base g n c k : Nat} {xs : List IdD} (hn : n = xs.length) (h : w.ownsRow base 36 2 (.slice (some ⟨g, 0, none⟩) n c) n (idCells xs)) (h0 : 0 < k) (hk : k < xs.length) (hall : compactF (xs.take k) = xs.take k) (he : xs[k - 1] = xs[k]) : CompSt w g c xs (k + 1) k := by
  have e := compactF_take (xs := xs) (m := k) h0 hk
  rw [if_pos he, hall] at e
  rcases h.2 with ⟨h1, h2⟩ | ⟨g', cap, cur, hv, hb, hg, hnc, hcm, hs, ht⟩
  · cases h1
  · injection hv with e1 e2 e3
    injection e1 with e1
    injection e1 with e1
    subst e1 e3 hn
    have hsz : cur.toList.length = c * 2 := by simpa using hs
    refine ⟨by omega, hk, hnc, by rw [e, List.length_take]; omega, cur, hg, hs, ?_, fun j h1 h2 => ?_⟩
    · rw [e, ← idCells_take, ← ht, List.take_take]
      congr 1
      omega
    · rw [← ht, List.getElem?_take_of_lt h2, Array.getElem?_toList]
/-- the clear of what is left over -/
theorem run_clear_row {P : Program} (w : World) (t e : TypeId) (z : Value) (ht : P.underlying t = some (.slice e)) (hv : ∀ w, (zeroValue e).run P w = .ok z w) (hz : z.cells.size = 2) (h1 : ∀ u ∈ z.cells.toList, u.oneCell' = true) (g o n c : Nat) (te : TypeId) (cur : Array Value) (hn : 0 < n)
    (hb : Blk w g te cur) (hs : o + n * 2 ≤ cur.size) :
    ∃ zs : List Value, zs.length = n * 2 ∧ ∀ ty, (Builtin.clear_ #[t] ty #[.slice (some ⟨g, o, none⟩) n c]).run P w = .ok (.tuple #[]) (w.setRow g (cur.toList.take o ++ zs ++ cur.toList.drop (o + n * 2)).toArray) := by
  have hzl : (Builtin.zeroCells z.cells n).toList.length = n * 2 := by rw [Array.length_toList, size_zeroCells, hz]
  have hone : ∀ v ∈ (Builtin.zeroCells z.cells n).toList, v.oneCell' = true := fun v hv' => by
    obtain ⟨i, hi, rfl⟩ := List.getElem_of_mem hv'
    refine h1 _ ?_
    simp [Builtin.zeroCells]
    have : i % z.cells.size < z.cells.size := Nat.mod_lt _ (by omega)
    rw [getElem!_pos z.cells _ this]
    exact Array.getElem_mem this
  have hst := run_storeCells_at (P := P) g o te (Builtin.zeroCells z.cells n).toList 0 cur w hb (by omega) hone
  rw [hzl, Nat.add_zero] at hst
  refine ⟨_, hzl, fun ty => ?_⟩
  obtain ⟨m, rfl⟩ : ∃ m, n = m + 1 := ⟨n - 1, by omega⟩
  simp [Builtin.clear_, run_underlying ht, hv, hst]
theorem CompSt.done {w : World} {base g c k : Nat} {xs : List IdD} (hbg : base ≤ g) (hcm : c ≤ maxLen) (h : CompSt w g c xs xs.length k) (P : Program) (t : TypeId) (z : Value) (ht : P.underlying t = some (.slice 36)) (hv : ∀ w, (zeroValue 36).run P w = .ok z w) (hz : z.cells.size = 2) (h1 : ∀ u ∈ z.cells.toList, u.oneCell' = true) :
    ∃ w', (∀ ty, (Builtin.clear_ #[t] ty #[.slice (some ⟨g, k * 2, none⟩) (xs.length - k) (c - k)]).run P w = .ok (.tuple #[]) w') ∧ w'.ownsRow base 36 2 (.slice (some ⟨g, 0, none⟩) k c) k (idCells (compactF xs)) ∧ w.grownBy w' (some g) := by
  have hlt := h.lt
  have hcap := h.cap
  obtain ⟨cur, hb, hs, hrow, _⟩ := h.row
  obtain ⟨zs, hzl, hr⟩ := run_clear_row (P := P) w t 36 z ht hv hz h1 g (k * 2) (xs.length - k) (c - k) 36 cur (by omega) hb (by omega)
  have hsz : cur.toList.length = c * 2 := by simpa using hs
  have hlen := h.len
  rw [List.take_of_length_le (Nat.le_refl _)] at hlen hrow
  have hAl : (cur.toList.take (k * 2)).length = k * 2 := by rw [List.length_take]; omega
  refine ⟨_, hr, ⟨by rw [idCells_length, hlen], .inr ⟨g, c, _, rfl, hbg, setRow_blk hb, by omega, hcm, ?_, ?_⟩⟩, setRow_grown _ _ _⟩
  · simp only [List.size_toArray, List.length_append, List.length_take, List.length_drop, hzl]
    omega
  · show List.take (k * 2) ((_ ++ _) ++ _) = _
    rw [List.append_assoc, List.take_append, hAl, List.take_of_length_le (by rw [hAl]; exact Nat.le_refl _), hrow, Nat.sub_self, List.take_zero, List.append_nil]

end Go.Proofs.Ytoffelfcmfpooaa
namespace Go.Proofs.Ytoffelfcmfpooaa
open Go.RowKit Go.Shelf Go.Lib





























































































































































































































end Go.Proofs.Ytoffelfcmfpooaa
namespace Go.Proofs.Ytoffelfcmfpooaa
open Go.RowKit

theorem own_at {w : World} {base e sz n : Nat} {v : Value} {xs : List Value} (h : w.ownsRow base e sz v n xs) {k : Nat} (hb : v.ownBlock = some k) : ∃ c, v = .slice (some ⟨k, 0, none⟩) n c ∧ n ≤ c := by
  rcases h.2 with ⟨rfl, _⟩ | ⟨g, cap, cur, rfl, _, _, hnc, _⟩
  · cases hb
  · simp only [Value.ownBlock] at hb
    injection hb with hb
    subst hb
    exact ⟨cap, rfl, hnc⟩
theorem own_at2 {w : World} {base e sz n : Nat} {v : Value} {xs : List Value} (h : w.ownsRow base e sz v n xs) {a b : Nat} (hb : v.ownBlock = some a ∨ v.ownBlock = some b) : ∃ k c, v = .slice (some ⟨k, 0, none⟩) n c ∧ n ≤ c := by
  rcases hb with hb | hb
  · obtain ⟨c, h1⟩ := own_at h hb; exact ⟨_, c, h1⟩
  · obtain ⟨c, h1⟩ := own_at h hb; exact ⟨_, c, h1⟩



















































































end Go.Proofs.Ytoffelfcmfpooaa
namespace Go.Proofs.Ytoffelfcmfpooaa
open Go.RowKit

def slLen : Value → Nat
  | .slice _ n _ => n
  | _ => 0
theorem own_at3 {w : World} {base e sz n : Nat} {v : Value} {xs : List Value} (h : w.ownsRow base e sz v n xs) {a b : Nat} (hb : v.ownBlock = some a ∨ v.ownBlock = some b) : ∃ k c, v = .slice (some ⟨k, 0, none⟩) n c ∧ (k = a ∨ k = b) := by
  rcases hb with hb | hb
  · obtain ⟨c, h1, _⟩ := own_at h hb; exact ⟨_, c, h1, .inl rfl⟩
  · obtain ⟨c, h1, _⟩ := own_at h hb; exact ⟨_, c, h1, .inr rfl⟩
theorem qrow_new (w : World) (base : Nat) (cs : Array Value) (y : IdD) (hb : base ≤ w.heap.size) (hc : cs = #[.int .i64 y.rep, .int .i64 y.slot]) : QRow (w.alloc (.cells cs 36)) base w.heap.size 0 1 1 [y] := by
  subst hc
  refine ⟨rfl, hb, _, blk_new _ _ _, Nat.le_refl _, by simp [maxLen], by simp, fun j hj => ?_⟩
  have : j = 0 ∨ j = 1 := by omega
  rcases this with rfl | rfl <;> rfl
theorem QRow.head {w : World} {base g off n c : Nat} {y : IdD} {xs : List IdD} (h : QRow w base g off n c (y :: xs)) : ∀ u v, [Value.int .i64 y.rep, Value.int .i64 y.slot][u]? = some v → w.cell? ((⟨g, off, none⟩ : Addr).add u) = some v := fun u v hv => by
  rw [add_plain]
  refine h.cells u v ?_
  have hu : u < 2 := by
    rcases Nat.lt_or_ge u 2 with h | h
    · exact h
    · rw [List.getElem?_eq_none (by simpa using h)] at hv; cases hv
  have : u = 0 ∨ u = 1 := by omega
  rcases this with rfl | rfl <;> exact hv
theorem QRow.pop2 {w : World} {base g off n c : Nat} {y : IdD} {xs : List IdD} (h : QRow w base g off n c (y :: xs)) : QRow w base g (off + 2) (n - 1) (c - 1) xs := by
  have h1 := h.len
  have h2 := h.cap
  simp only [List.length_cons] at h1
  obtain ⟨m, rfl⟩ : ∃ m, n = m + 1 := ⟨n - 1, by omega⟩
  obtain ⟨d, rfl⟩ : ∃ d, c = d + 1 := ⟨c - 1, by omega⟩
  exact h.pop
theorem QRow.pop3 {w : World} {base g off n : Nat} {y : IdD} {xs : List IdD} (h : QRow w base g off n 1 (y :: xs)) : QRow w base g off (n - 1) 0 xs := by
  have h1 := h.len
  have h2 := h.cap
  simp only [List.length_cons] at h1
  have : n = 1 := by omega
  subst this
  exact h.pop1
theorem reads_elem {w : World} {A : Option Addr} {d : List IdD} (h : Reads w 2 A d.length (idCells d)) (j : Nat) (hj : j < d.length) : ∃ ad, A = some ad ∧ ∀ u v, [Value.int .i64 d[j].rep, Value.int .i64 d[j].slot][u]? = some v → w.cell? ((ad.add (j * 2)).add u) = some v := by
  obtain ⟨ad, e, hc⟩ := h.2 (by omega)
  refine ⟨ad, e, fun u v hv => ?_⟩
  have hu : u < 2 := by
    rcases Nat.lt_or_ge u 2 with h | h
    · exact h
    · rw [List.getElem?_eq_none (by simpa using h)] at hv; cases hv
  rw [add_of_add]
  refine hc (j * 2 + u) v ?_
  have h1 : (idCells d)[j * 2 + u]? = ((idCells d).drop (j * 2))[u]? := by rw [List.getElem?_drop]
  rw [h1, idCells_drop, List.drop_eq_getElem_cons hj, idCells]
  have : u = 0 ∨ u = 1 := by omega
  rcases this with rfl | rfl <;> exact hv
theorem reads_kept {w w' : World} {A : Option Addr} {n : Nat} {cells : List Value} (h : Reads w 2 A n cells) (hk : ∀ ad, A = some ad → 0 < n → w'.heap[ad.block]? = w.heap[ad.block]?) : Reads w' 2 A n cells :=
  ⟨h.1, fun hn => by
    obtain ⟨ad, e, hc⟩ := h.2 hn
    refine ⟨ad, e, fun j u hu => ?_⟩
    have e2 := World.cell?_of_block (w := w) (w' := w') (a := ad.add j) (by rw [block_of_add]; exact hk ad e hn)
    rw [e2]
    exact hc j u hu⟩
theorem deps_yes {xs : List InstD} {y : IdD} (h : (fInstAt xs y).status = 3) : depsOf xs y = (fInstAt xs y).deps := if_pos h
theorem deps_no {xs : List InstD} {y : IdD} (h : ¬ (fInstAt xs y).status = 3) : depsOf xs y = [] := if_neg h
theorem own_block {w : World} {base e n c : Nat} {A : Option Addr} {xs : List Value} (h : w.ownsRow base e 2 (.slice A n c) n xs) : ∀ ad, A = some ad → 0 < n → base ≤ ad.block ∧ ad.block < w.heap.size := fun ad e hn => by
  subst e
  exact h.lt ad.block rfl
/-- an instance in a block of its own -/
theorem inst_slot {v : World} {g : Nat} {z : InstD} {A0 A1 : Option Addr} {k0 k1 : Nat} (h : Blk v g 40 [.int .i64 z.id.rep, .int .i64 z.id.slot, .int .i64 z.bal, .int .i64 z.vbal, .int .i64 z.status, .int .i64 z.cmd.kind, .int .i64 z.cmd.client, .int .i64 z.cmd.no, .string (bs z.cmd.set), .string (bs z.cmd.name), .string (bs z.cmd.tag), .int .i64 z.cmd.n, .slice A0 z.cmd.chunks.length k0, .int .i64 z.seq, .slice A1 z.deps.length k1, .bool z.same].toArray) :
    v.cell? ⟨g, 4, none⟩ = some (.int .i64 z.status) ∧ v.cell? ⟨g, 14, none⟩ = some (.slice A1 z.deps.length k1) := ⟨blk_cell0 h 4 rfl, blk_cell0 h 14 rfl⟩
def DepRow (w : World) (A : Option Addr) (d : List IdD) (go g : Nat) : Prop := Reads w 2 A d.length (idCells d) ∧ ∀ ad, A = some ad → 0 < d.length → ad.block ≠ go ∧ ad.block ≠ g ∧ ad.block < w.heap.size
theorem DepRow.below {w w' : World} {A : Option Addr} {d : List IdD} {go g : Nat} (h : DepRow w A d go g) (hb : Below w.heap.size w w') : DepRow w' A d go g :=
  ⟨reads_kept h.1 fun ad e hn => hb.block _ (h.2 ad e hn).2.2, fun ad e hn => ⟨(h.2 ad e hn).1, (h.2 ad e hn).2.1, Nat.lt_of_lt_of_le (h.2 ad e hn).2.2 hb.size⟩⟩
theorem DepRow.out {w w' : World} {A : Option Addr} {d : List IdD} {go g go' : Nat} (h : DepRow w A d go g) (hg : w.grownBy w' (some go)) (hn' : go' = go ∨ w.heap.size ≤ go') : DepRow w' A d go' g :=
  ⟨reads_kept h.1 fun ad e hn => hg.block _ (h.2 ad e hn).2.2 (fun e2 => by injection e2 with e2; exact (h.2 ad e hn).1 e2), fun ad e hn => ⟨by have := h.2 ad e hn; rcases hn' with rfl | h2 <;> omega, (h.2 ad e hn).2.1, Nat.lt_of_lt_of_le (h.2 ad e hn).2.2 hg.size⟩⟩
theorem DepRow.queue {w w' : World} {A : Option Addr} {d : List IdD} {go g g' : Nat} (h : DepRow w A d go g) (hg : w.grownBy w' (some g)) (hn' : g' = g ∨ w.heap.size ≤ g') : DepRow w' A d go g' :=
  ⟨reads_kept h.1 fun ad e hn => hg.block _ (h.2 ad e hn).2.2 (fun e2 => by injection e2 with e2; exact (h.2 ad e hn).2.1 e2), fun ad e hn => ⟨(h.2 ad e hn).1, by have := h.2 ad e hn; rcases hn' with rfl | h2 <;> omega, Nat.lt_of_lt_of_le (h.2 ad e hn).2.2 hg.size⟩⟩
theorem QRow.kept {w w' : World} {base g off n c : Nat} {xs : List IdD} {r : Nat} (h : QRow w base g off n c xs) (hg : w.grownBy w' (some r)) (hn : g ≠ r) : QRow w' base g off n c xs :=
  h.keep (hg.block g h.lt (fun e => hn (by injection e)))
set_option maxRecDepth 100000 in
set_option maxHeartbeats 8000000 in
theorem iReach_any (xs : List InstD) (x : IdD) (A : Option Addr) (n c : Nat) (cs : List Value) (w : World) (hn : n = xs.length) (hwt : n + (cat InstD.c xs).wt ≤ 1048576) (_ : x.c.wt ≤ 1048576) (h : Rep anyB w (.sl 40 16 n (cat InstD.c xs) .nil) [.slice A n c]) (h' : Rep anyB w x.c cs) :
    Calls Try.prog 82 #[.slice A n c, .agg cs.toArray] w fun e w' => ∃ A2 m c2, e = .returned (.slice A2 m c2) ∧ m = (fReach xs x).length ∧ Mine w' w.heap.size (.sl 36 2 m (cat IdD.c (fReach xs x)) .nil) [.slice A2 m c2] ∧ Below w.heap.size w w' := by
  have HOK := Lib.hid (fun W h => iInstsOk_any xs A n c W hn hwt h)
  have HIA := Lib.hid (fun y cs W h h' => iInstAt_any xs y A n c cs W hn hwt (Nat.zero_le _) h h')
  obtain rfl := IdD.open h'
  have HR := Lib.hid h; clear h
  clear h' hn
  obtain ⟨R, hR⟩ : ∃ R, R = fReach xs x := ⟨_, rfl⟩
  rw [← hR]
  unfold fReach at hR
  have SB := Lib.hid (blk_new w #[.int .i64 x.rep, .int .i64 x.slot] 36)
  go_enter Try.func82, Try.ntmps82
  go_wp2_with fail
  refine (HOK.out _ (HR.out.below (by repeat' (first | with_reducible exact Below.refl _ _ | with_reducible exact BW.out | with_reducible refine Below.setCell ?_ ?_ _ | with_reducible refine Below.alloc ?_ ?_ _ | with_reducible refine Below.drew ?_ | (simp; done) | (simp; omega) | omega)))).mono ?_; rintro e w1 ⟨rfl, hb⟩
  have BW := Lib.hid (show Below w.heap.size w w1 from Below.trans (by repeat' (first | with_reducible exact Below.refl _ _ | with_reducible exact BW.out | with_reducible refine Below.setCell ?_ ?_ _ | with_reducible refine Below.alloc ?_ ?_ _ | with_reducible refine Below.drew ?_ | (simp; done) | (simp; omega) | omega)) (hb.mono (by first | (simp; done) | (simp; omega) | omega)))
  have SB1 := Lib.hid (SB.out.below hb)
  clear hb SB
  cases hok : instsOkB xs with
  | false =>
    rw [hok, if_neg (by simp)] at hR
    subst hR
    have HM := Lib.hid (mine_ids (l := []) (World.ownsRow_nil w1 w.heap.size 36 2) rfl)
    go_wp2
    go_ret
    exact ⟨_, 0, 0, ret_eq rfl, rfl, HM.out, BW.out⟩
  | true =>
    rw [hok, if_pos rfl] at hR
    have HEND := Lib.hid (fun acc ys hs hp hw => hR.trans (@Srch.done xs hok x acc ys hs hp hw).symm)
    have HLEN := Lib.hid (fun out h1 h2 => @Srch.len xs hok x out [] h1 h2)
    have HDY := Lib.hid (fun y h => @deps_yes xs y h)
    have HDN := Lib.hid (fun y h => @deps_no xs y h)
    have HS0 := Lib.hid (Srch.start (depsOf xs) x)
    have HGD := Lib.hid (fun y => (deps_good hok y).len)
    generalize depsOf xs = D at *
    clear hok HOK hR
    go_wp2_with (first | ((with_reducible show wpList _ _ _ ({ dst := _, op := Op.load 36 _, type := _, pos := _, after := _, guard := _ } :: _) _ _); refine wpList_load_row _ ⟨w.heap.size, 0, none⟩ rfl [.int .i64 x.rep, .int .i64 x.slot] agg_Id rfl (blk_cells (SB1.out.alloc _)) ?_) | fail)
    have own0 : (w1.alloc (.cells #[] 36)).ownsRow w.heap.size 36 2 (.slice (some ⟨w1.heap.size, 0, none⟩) 0 0) 0 (idCells []) := own_nilAt _ _ _ _ _ rfl BW.out.size
    have OW0 := Lib.hid own0; clear own0
    go_loopw [5, 6] (fun oo qq wr => ∃ (acc q : List IdD) (p qn go kv g off qc : Nat), p = acc.length ∧ p ≤ 18 ∧ qn + 2 * (18 - p) ≤ 37 ∧ oo = .slice (some ⟨go, 0, none⟩) p kv ∧ qq = .slice (some ⟨g, off, none⟩) qn qc ∧ Srch D x acc q ∧ wr.ownsRow w.heap.size 36 2 (.slice (some ⟨go, 0, none⟩) p kv) p (idCells acc) ∧ QRow wr w.heap.size g off qn qc q ∧ go ≠ g ∧ Below w.heap.size w wr) (fun oo qq _ => slLen qq + 2 * (18 - slLen oo))
    case atStart =>
      refine ⟨[], [x], 0, 1, w1.heap.size, 0, w1.heap.size + 1, 0, 1, rfl, by omega, by omega, rfl, rfl, HS0.out, OW0.out.keptBelowJ ((Below.refl _ _).alloc (Nat.le_refl _) _), ?_, by omega, (BW.out.alloc BW.out.size _).alloc (Nat.le_trans BW.out.size (by simp)) _⟩
      have := qrow_new (w1.alloc (.cells #[] 36)) w.heap.size #[.int .i64 x.rep, .int .i64 x.slot] x (Nat.le_trans BW.out.size (by simp)) rfl
      simpa using this
    case round =>
      obtain ⟨acc, q, p, qn, go, kv, g, off, qc, hp, hp18, hM, rfl, rfl, hsr, hown, hqr, hgg, hbw⟩ := hrel
      clear OW0 BW HS0 SB1
      have HS := Lib.hid hsr; clear hsr
      have HO := Lib.hid hown; clear hown
      have BW := Lib.hid hbw; clear hbw
      have HP := Lib.hid hp; clear hp
      by_cases hq0 : 0 < qn
      · obtain ⟨y, q', rfl⟩ : ∃ y q', q = y :: q' := by
          cases q with
          | nil => have := hqr.len; simp at this; omega
          | cons y q' => exact ⟨y, q', rfl⟩
        have hcap := hqr.cap
        have HQ := Lib.hid hqr; clear hqr
        have hQ0 : decide ((0 : Int) < (qn : Int)) = true := by simp; omega
        have HQH := Lib.hid HQ.out.head
        by_cases hq1 : qc = 1
        · subst hq1
          have hqn1 : qn = 1 := by omega
          subst hqn1
          clear hcap
          go_wp2_with (first | ((with_reducible show wpList _ _ _ ({ dst := _, op := Op.load 36 _, type := _, pos := _, after := _, guard := _ } :: _) _ _); refine wpList_load_row _ _ rfl [.int .i64 y.rep, .int .i64 y.slot] agg_Id rfl HQH.out ?_) | fail)
          refine (HIA.out y _ _ (HR.out.below BW.out) IdD.shut).mono ?_; rintro e w2 ⟨csx, rfl, hMi, hb⟩
          obtain ⟨F, hnd, ho⟩ := hMi
          obtain ⟨z, hz⟩ : ∃ z, z = fInstAt xs y := ⟨_, rfl⟩
          rw [← hz] at ho
          have hdy := HDY.out y
          have hdn := HDN.out y
          rw [← hz] at hdy hdn
          clear hz hnd
          have H1C := Lib.hid ho.one
          obtain ⟨A0, k0, A1, k1, F0, F1, rfl, _, _, hs1⟩ := InstD.openO ho
          clear ho
          have HW2 := Lib.hid hb.size
          have HO2 := Lib.hid (HO.out.keptBelowJ hb)
          have HQ2 := Lib.hid (HQ.out.below hb)
          have BW2 := Lib.hid (BW.out.trans (hb.mono BW.out.size))
          have HLo := Lib.hid (HO.out.lt go rfl).2
          have HLg := Lib.hid HQ.out.lt
          have hdrow : DepRow w2 A1 z.deps go g := by
            obtain ⟨cells, F2, _, _, hrow, _⟩ := Own.sl1.1 hs1
            obtain ⟨cd, hrd, hrc, _⟩ := hs1.repAny.row
            obtain rfl := rep_ids hrc
            exact ⟨hrd, fun ad e hn => by
              have h1 := own_block hrow ad e hn
              have h2 := HLo.out
              have h3 := HLg.out
              exact ⟨by omega, by omega, h1.2⟩⟩
          have HDR := Lib.hid hdrow
          clear hdrow hs1 hb HQH
          have HDYN := Lib.hid (And.intro hdy hdn); clear hdy hdn
          have hBA : ∀ o, Below w2.heap.size w2 (w2.alloc o) := fun o => (Below.refl _ w2).alloc (Nat.le_refl _) o
          have HO3 := Lib.hid (fun o => HO2.out.keptBelowJ (hBA o))
          have HQ3 := Lib.hid (fun o => (HQ2.out.below (hBA o)).pop3)
          have BW3 := Lib.hid (fun o => BW2.out.alloc BW2.out.size o)
          have HDR3 := Lib.hid (fun o => HDR.out.below (hBA o))
          clear HO2 HQ2 BW2 HDR hBA H1C
          have HEN := Lib.hid HS.out.enter
          by_cases hst : z.status = 3
          · have hde : D y = z.deps := HDYN.out.1 hst
            have HDE := Lib.hid hde; clear hde HDYN
            have hsb : (z.status != 3) = false := by simpa using hst
            have hd18 : z.deps.length ≤ 18 := by rw [← HDE.out]; exact HGD.out y
            clear hst
            generalize z.deps = d at *
            have HEN2 := Lib.hid HEN.out
            obtain ⟨M0, hM0⟩ : ∃ M0, M0 = 0 + 2 * (18 - p) := ⟨_, rfl⟩
            have hM37 : M0 + 1 ≤ 37 := by omega
            have HM0 := Lib.hid hM0; clear hM0
            go_wp2
            go_loopw [5, 6, 32] (fun oo qq jj wr => ∃ (acc q : List IdD) (p qn go kv g off qc j : Nat), p = acc.length ∧ p ≤ 18 ∧ qn + 2 * (18 - p) ≤ M0 ∧ oo = .slice (some ⟨go, 0, none⟩) p kv ∧ qq = .slice (some ⟨g, off, none⟩) qn qc ∧ jj = .int .i64 (j : Int) ∧ j ≤ d.length ∧ SrchIn D x y j acc q ∧ wr.ownsRow w.heap.size 36 2 (.slice (some ⟨go, 0, none⟩) p kv) p (idCells acc) ∧ QRow wr w.heap.size g off qn qc q ∧ go ≠ g ∧ DepRow wr A1 d go g ∧ Below w.heap.size w wr) (fun _ _ jj _ => d.length - (intOf jj).toNat)
            case atStart => exact ⟨acc, q', p, 0, go, kv, g, off, 0, 0, HP.out, hp18, Nat.le_of_eq HM0.out.symm, rfl, rfl, rfl, Nat.zero_le _, HEN2.out, HO3.out _, HQ3.out _, hgg, HDR3.out _, BW3.out _⟩
            case round =>
              clear HO3 HQ3 BW3 HDR3 HEN2 HEN HO HQ BW HS HP HLo HLg
              obtain ⟨acc, q, p, qn, go, kv, g, off, qc, j, hp, hp18', hM', rfl, rfl, rfl, hj, hsr, hown, hqr, hgg, hdr, hbw⟩ := hrel
              have HS := Lib.hid hsr; clear hsr
              have HO := Lib.hid hown; clear hown
              have HQ := Lib.hid hqr; clear hqr
              have BW := Lib.hid hbw; clear hbw
              have HP := Lib.hid hp; clear hp
              have HDR := Lib.hid hdr; clear hdr
              by_cases hjl : j < d.length
              · obtain ⟨ad, rfl, hce⟩ := reads_elem HDR.out.1 j hjl
                have hskip := fun h => HS.out.skip (by rw [HDE.out]; exact hjl) h
                have hadd := fun h => HS.out.add (by rw [HDE.out]; exact hjl) h
                have hdj : (D y)[j]'(by rw [HDE.out]; exact hjl) = d[j] := by simp only [HDE.out]
                rw [hdj] at hskip hadd
                have HSK := Lib.hid hskip; clear hskip
                have HAD := Lib.hid hadd; clear hadd hdj
                generalize d[j] = t at *
                have HCE := Lib.hid hce; clear hce
                have hlo := (HO.out.lt go rfl).2
                have hlg := HQ.out.lt
                go_wp2_with (first
                  | ((with_reducible show wpList _ _ _ ({ dst := _, op := Op.load 36 _, type := _, pos := _, after := _, guard := _ } :: _) _ _); first | refine wpList_load_row _ ⟨wr.heap.size, 0, none⟩ rfl [.int .i64 t.rep, .int .i64 t.slot] agg_Id rfl (blk_cells (blk_new wr _ _)) ?_ | refine wpList_load_row _ _ rfl [.int .i64 t.rep, .int .i64 t.slot] agg_Id rfl HCE.out ?_)
                  | fail)
                refine (containsId_any acc t _ p kv _ _ HP.out (by omega) (own_rep (HO.out.keptBelowJ ((Below.refl _ wr).alloc (Nat.le_refl _) _)) HP.out) IdD.shut).mono ?_; rintro e v4 ⟨rfl, hb⟩
                have BV4 := Lib.hid (((Below.refl _ wr).alloc (Nat.le_refl _) _).trans (hb.mono (by simp)))
                have HTB4 := Lib.hid (show Blk v4 wr.heap.size 36 [.int .i64 t.rep, .int .i64 t.slot].toArray from (blk_new wr _ _).below hb)
                have HO5 := Lib.hid (HO.out.keptBelowJ BV4.out)
                have HQ5 := Lib.hid (HQ.out.below BV4.out)
                have HD5 := Lib.hid (HDR.out.below BV4.out)
                have BW5 := Lib.hid (BW.out.trans (BV4.out.mono BW.out.size))
                have hs4 := HTB4.out.lt
                clear hb
                cases hh : hasB acc t with
                | true =>
                  have hmem : t ∈ acc := by simpa [hasB] using hh
                  have HS2 := Lib.hid (HSK.out hmem)
                  clear hmem HSK HAD hh
                  go_wp2
                  exact ⟨⟨acc, q, p, qn, go, kv, g, off, qc, j + 1, HP.out, hp18', hM', rfl, rfl, by go_num, by omega, HS2.out, HO5.out, HQ5.out, hgg, HD5.out, BW5.out⟩, by simp only [intOf]; omega⟩
                | false =>
                  have hmem : t ∉ acc := by simpa [hasB] using hh
                  have hs2 := HAD.out hmem
                  have hl18 := HLEN.out _ hs2.nodup hs2.rch
                  rw [List.length_append, ← show p = acc.length from HP.out] at hl18
                  simp only [List.length_cons, List.length_nil] at hl18
                  have HS2 := Lib.hid hs2
                  clear hmem HSK HAD hh hs2
                  go_wp2_with (first
                    | ((with_reducible show wpList _ _ _ ({ dst := _, op := Op.load 36 _, type := _, pos := _, after := _, guard := _ } :: _) _ _); first | refine wpList_load_row _ ⟨wr.heap.size, 0, none⟩ rfl [.int .i64 t.rep, .int .i64 t.slot] agg_Id rfl (blk_cells HTB4.out) ?_ | refine wpList_load_row _ ⟨wr.heap.size, 0, none⟩ rfl [.int .i64 t.rep, .int .i64 t.slot] agg_Id rfl (blk_cells HTB6.out) ?_)
                    | (at_builtin; (refine wpList_qapp E_Id _ rfl _ _ rfl w.heap.size g off qn qc q rfl (HQ6.out.below ((Below.refl _ v6).alloc (Nat.le_refl _) _)) _ _ t rfl (blk_cells (blk_new v6 _ _)) (by omega) (Nat.le_trans BW6.out.size (by simp)) ?_; intro g2 off2 qc2 v7 hq7 hg7 hg2; have hBA : ∀ o, Below v6.heap.size v6 (v6.alloc o) := (fun o => (Below.refl _ v6).alloc (Nat.le_refl _) o); have HQ7 := Lib.hid hq7; have HO7 := Lib.hid ((HO6.out.keptBelowJ (hBA _)).kept hg7 (.inr (by simp only [Value.ownBlock]; exact fun e => hgo6 (by injection e)))); have HD7 := Lib.hid ((HD6.out.below (hBA _)).queue hg7 hg2); have BW7 := Lib.hid (Below.grown (BW6.out.trans ((hBA _).mono BW6.out.size)) hg7 (Nat.le_trans BW6.out.size (hBA _).size) (fun k hk => by injection hk with hk; have := HQ6.out.base_le; omega)); have hgo7 : go2 ≠ g2 := by { have h1 := (HO6.out.lt go2 rfl).2; rcases hg2 with h | h; { rw [h]; exact hgo6 }; { have h3 := Nat.le_trans (hBA _).size h; omega } }; clear hq7 hg7 hg2 hBA))
                    | (at_builtin; go_must (refine wpList_app E_Id _ rfl _ _ rfl w.heap.size _ p (idCells acc) rfl (HO5.out.keptBelowJ ((Below.refl _ v4).alloc (Nat.le_refl _) _)) _ _ _ _ rfl (Reads.new rfl) (by simp [Value.oneCell']) (by omega) (Nat.le_trans BW5.out.size (by simp)) ?_; intro vv v6 hown6 hg6 hat6; replace hg6 : World.grownBy _ v6 (some go) := hg6; obtain ⟨go2, kv2, rfl, hgo2⟩ := own_at3 hown6 (show _ = some go ∨ _ = some _ from hat6); have hgo3 : go2 = go ∨ v4.heap.size ≤ go2 := hgo2.imp id (fun h => by rw [h]; simp); have hBA : ∀ o, Below v4.heap.size v4 (v4.alloc o) := (fun o => (Below.refl _ v4).alloc (Nat.le_refl _) o); have HO6 := Lib.hid (show v6.ownsRow w.heap.size 36 2 (.slice (some ⟨go2, 0, none⟩) (p + 1) kv2) (p + 1) (idCells (acc ++ [t])) by rw [idCells_app]; exact hown6); have HQ6 := Lib.hid ((HQ5.out.below (hBA _)).kept hg6 (fun e => hgg e.symm)); have HTB6 := Lib.hid ((HTB4.out.below (hBA _)).grown hg6 (by omega)); have HD6 := Lib.hid ((HD5.out.below (hBA _)).out hg6 (hgo2.imp id (fun h => by rw [h]; exact Nat.le_refl _))); have BW6 := Lib.hid (Below.grown (BW5.out.trans ((hBA _).mono BW5.out.size)) hg6 (Nat.le_trans BW5.out.size (hBA _).size) (fun k hk => by injection hk with hk; have := (HO5.out.lt go rfl).1; omega)); have hs6 : v4.heap.size ≤ v6.heap.size := Nat.le_trans (hBA _).size hg6.size; have hgo6 : go2 ≠ g := by { have := HQ5.out.lt; rcases hgo3 with h | h <;> omega }; clear hown6 hg6 hat6 hgo2 hBA))
                    | fail)
                  exact ⟨⟨acc ++ [t], q ++ [t], p + 1, qn + 1, go2, kv2, g2, off2, qc2, j + 1, by rw [List.length_append, ← show p = acc.length from HP.out]; rfl, by omega, by omega, rfl, rfl, by go_num, by omega, HS2.out, HO7.out, HQ7.out, hgo7, HD7.out, BW7.out⟩, by simp only [intOf]; omega⟩
              · have hje : j = d.length := by omega
                subst hje
                have HS2 := Lib.hid (HS.out.leave (by rw [HDE.out]))
                go_wp2
                exact ⟨⟨acc, q, p, qn, go, kv, g, off, qc, HP.out, hp18', by omega, rfl, rfl, HS2.out, HO.out, HQ.out, hgg, BW.out⟩, by have h0 := HM0.out; simp only [slLen]; omega⟩
          · have hde : D y = [] := HDYN.out.2 hst
            have hsb : (z.status != 3) = true := by simpa using hst
            have HS2 := Lib.hid (HEN.out.leave (by rw [hde]; rfl))
            clear hde hst
            go_wp2
            exact ⟨⟨acc, q', p, 0, go, kv, g, off, 0, HP.out, hp18, by omega, rfl, rfl, HS2.out, HO3.out _, HQ3.out _, hgg, BW3.out _⟩, by simp only [slLen]; omega⟩
        · have hq2 : ¬ qc - 1 = 0 := by omega
          go_wp2_with (first | ((with_reducible show wpList _ _ _ ({ dst := _, op := Op.load 36 _, type := _, pos := _, after := _, guard := _ } :: _) _ _); refine wpList_load_row _ _ rfl [.int .i64 y.rep, .int .i64 y.slot] agg_Id rfl HQH.out ?_) | fail)
          refine (HIA.out y _ _ (HR.out.below BW.out) IdD.shut).mono ?_; rintro e w2 ⟨csx, rfl, hMi, hb⟩
          obtain ⟨F, hnd, ho⟩ := hMi
          obtain ⟨z, hz⟩ : ∃ z, z = fInstAt xs y := ⟨_, rfl⟩
          rw [← hz] at ho
          have hdy := HDY.out y
          have hdn := HDN.out y
          rw [← hz] at hdy hdn
          clear hz hnd
          have H1C := Lib.hid ho.one
          obtain ⟨A0, k0, A1, k1, F0, F1, rfl, _, _, hs1⟩ := InstD.openO ho
          clear ho
          have HW2 := Lib.hid hb.size
          have HO2 := Lib.hid (HO.out.keptBelowJ hb)
          have HQ2 := Lib.hid (HQ.out.below hb)
          have BW2 := Lib.hid (BW.out.trans (hb.mono BW.out.size))
          have HLo := Lib.hid (HO.out.lt go rfl).2
          have HLg := Lib.hid HQ.out.lt
          have hdrow : DepRow w2 A1 z.deps go g := by
            obtain ⟨cells, F2, _, _, hrow, _⟩ := Own.sl1.1 hs1
            obtain ⟨cd, hrd, hrc, _⟩ := hs1.repAny.row
            obtain rfl := rep_ids hrc
            exact ⟨hrd, fun ad e hn => by
              have h1 := own_block hrow ad e hn
              have h2 := HLo.out
              have h3 := HLg.out
              exact ⟨by omega, by omega, h1.2⟩⟩
          have HDR := Lib.hid hdrow
          clear hdrow hs1 hb HQH
          have HDYN := Lib.hid (And.intro hdy hdn); clear hdy hdn
          have hBA : ∀ o, Below w2.heap.size w2 (w2.alloc o) := fun o => (Below.refl _ w2).alloc (Nat.le_refl _) o
          have HO3 := Lib.hid (fun o => HO2.out.keptBelowJ (hBA o))
          have HQ3 := Lib.hid (fun o => (HQ2.out.below (hBA o)).pop2)
          have BW3 := Lib.hid (fun o => BW2.out.alloc BW2.out.size o)
          have HDR3 := Lib.hid (fun o => HDR.out.below (hBA o))
          clear HO2 HQ2 BW2 HDR hBA H1C
          have HEN := Lib.hid HS.out.enter
          by_cases hst : z.status = 3
          · have hde : D y = z.deps := HDYN.out.1 hst
            have HDE := Lib.hid hde; clear hde HDYN
            have hsb : (z.status != 3) = false := by simpa using hst
            have hd18 : z.deps.length ≤ 18 := by rw [← HDE.out]; exact HGD.out y
            clear hst
            generalize z.deps = d at *
            have HEN2 := Lib.hid HEN.out
            obtain ⟨M0, hM0⟩ : ∃ M0, M0 = (qn - 1) + 2 * (18 - p) := ⟨_, rfl⟩
            have hM37 : M0 + 1 ≤ 37 := by omega
            have HM0 := Lib.hid hM0; clear hM0
            go_wp2
            go_loopw [5, 6, 32] (fun oo qq jj wr => ∃ (acc q : List IdD) (p qn go kv g off qc j : Nat), p = acc.length ∧ p ≤ 18 ∧ qn + 2 * (18 - p) ≤ M0 ∧ oo = .slice (some ⟨go, 0, none⟩) p kv ∧ qq = .slice (some ⟨g, off, none⟩) qn qc ∧ jj = .int .i64 (j : Int) ∧ j ≤ d.length ∧ SrchIn D x y j acc q ∧ wr.ownsRow w.heap.size 36 2 (.slice (some ⟨go, 0, none⟩) p kv) p (idCells acc) ∧ QRow wr w.heap.size g off qn qc q ∧ go ≠ g ∧ DepRow wr A1 d go g ∧ Below w.heap.size w wr) (fun _ _ jj _ => d.length - (intOf jj).toNat)
            case atStart => exact ⟨acc, q', p, (qn - 1), go, kv, g, (off + 2), (qc - 1), 0, HP.out, hp18, Nat.le_of_eq HM0.out.symm, rfl, rfl, rfl, Nat.zero_le _, HEN2.out, HO3.out _, HQ3.out _, hgg, HDR3.out _, BW3.out _⟩
            case round =>
              clear HO3 HQ3 BW3 HDR3 HEN2 HEN HO HQ BW HS HP HLo HLg
              obtain ⟨acc, q, p, qn, go, kv, g, off, qc, j, hp, hp18', hM', rfl, rfl, rfl, hj, hsr, hown, hqr, hgg, hdr, hbw⟩ := hrel
              have HS := Lib.hid hsr; clear hsr
              have HO := Lib.hid hown; clear hown
              have HQ := Lib.hid hqr; clear hqr
              have BW := Lib.hid hbw; clear hbw
              have HP := Lib.hid hp; clear hp
              have HDR := Lib.hid hdr; clear hdr
              by_cases hjl : j < d.length
              · obtain ⟨ad, rfl, hce⟩ := reads_elem HDR.out.1 j hjl
                have hskip := fun h => HS.out.skip (by rw [HDE.out]; exact hjl) h
                have hadd := fun h => HS.out.add (by rw [HDE.out]; exact hjl) h
                have hdj : (D y)[j]'(by rw [HDE.out]; exact hjl) = d[j] := by simp only [HDE.out]
                rw [hdj] at hskip hadd
                have HSK := Lib.hid hskip; clear hskip
                have HAD := Lib.hid hadd; clear hadd hdj
                generalize d[j] = t at *
                have HCE := Lib.hid hce; clear hce
                have hlo := (HO.out.lt go rfl).2
                have hlg := HQ.out.lt
                go_wp2_with (first
                  | ((with_reducible show wpList _ _ _ ({ dst := _, op := Op.load 36 _, type := _, pos := _, after := _, guard := _ } :: _) _ _); first | refine wpList_load_row _ ⟨wr.heap.size, 0, none⟩ rfl [.int .i64 t.rep, .int .i64 t.slot] agg_Id rfl (blk_cells (blk_new wr _ _)) ?_ | refine wpList_load_row _ _ rfl [.int .i64 t.rep, .int .i64 t.slot] agg_Id rfl HCE.out ?_)
                  | fail)
                refine (containsId_any acc t _ p kv _ _ HP.out (by omega) (own_rep (HO.out.keptBelowJ ((Below.refl _ wr).alloc (Nat.le_refl _) _)) HP.out) IdD.shut).mono ?_; rintro e v4 ⟨rfl, hb⟩
                have BV4 := Lib.hid (((Below.refl _ wr).alloc (Nat.le_refl _) _).trans (hb.mono (by simp)))
                have HTB4 := Lib.hid (show Blk v4 wr.heap.size 36 [.int .i64 t.rep, .int .i64 t.slot].toArray from (blk_new wr _ _).below hb)
                have HO5 := Lib.hid (HO.out.keptBelowJ BV4.out)
                have HQ5 := Lib.hid (HQ.out.below BV4.out)
                have HD5 := Lib.hid (HDR.out.below BV4.out)
                have BW5 := Lib.hid (BW.out.trans (BV4.out.mono BW.out.size))
                have hs4 := HTB4.out.lt
                clear hb
                cases hh : hasB acc t with
                | true =>
                  have hmem : t ∈ acc := by simpa [hasB] using hh
                  have HS2 := Lib.hid (HSK.out hmem)
                  clear hmem HSK HAD hh
                  go_wp2
                  exact ⟨⟨acc, q, p, qn, go, kv, g, off, qc, j + 1, HP.out, hp18', hM', rfl, rfl, by go_num, by omega, HS2.out, HO5.out, HQ5.out, hgg, HD5.out, BW5.out⟩, by simp only [intOf]; omega⟩
                | false =>
                  have hmem : t ∉ acc := by simpa [hasB] using hh
                  have hs2 := HAD.out hmem
                  have hl18 := HLEN.out _ hs2.nodup hs2.rch
                  rw [List.length_append, ← show p = acc.length from HP.out] at hl18
                  simp only [List.length_cons, List.length_nil] at hl18
                  have HS2 := Lib.hid hs2
                  clear hmem HSK HAD hh hs2
                  go_wp2_with (first
                    | ((with_reducible show wpList _ _ _ ({ dst := _, op := Op.load 36 _, type := _, pos := _, after := _, guard := _ } :: _) _ _); first | refine wpList_load_row _ ⟨wr.heap.size, 0, none⟩ rfl [.int .i64 t.rep, .int .i64 t.slot] agg_Id rfl (blk_cells HTB4.out) ?_ | refine wpList_load_row _ ⟨wr.heap.size, 0, none⟩ rfl [.int .i64 t.rep, .int .i64 t.slot] agg_Id rfl (blk_cells HTB6.out) ?_)
                    | (at_builtin; (refine wpList_qapp E_Id _ rfl _ _ rfl w.heap.size g off qn qc q rfl (HQ6.out.below ((Below.refl _ v6).alloc (Nat.le_refl _) _)) _ _ t rfl (blk_cells (blk_new v6 _ _)) (by omega) (Nat.le_trans BW6.out.size (by simp)) ?_; intro g2 off2 qc2 v7 hq7 hg7 hg2; have hBA : ∀ o, Below v6.heap.size v6 (v6.alloc o) := (fun o => (Below.refl _ v6).alloc (Nat.le_refl _) o); have HQ7 := Lib.hid hq7; have HO7 := Lib.hid ((HO6.out.keptBelowJ (hBA _)).kept hg7 (.inr (by simp only [Value.ownBlock]; exact fun e => hgo6 (by injection e)))); have HD7 := Lib.hid ((HD6.out.below (hBA _)).queue hg7 hg2); have BW7 := Lib.hid (Below.grown (BW6.out.trans ((hBA _).mono BW6.out.size)) hg7 (Nat.le_trans BW6.out.size (hBA _).size) (fun k hk => by injection hk with hk; have := HQ6.out.base_le; omega)); have hgo7 : go2 ≠ g2 := by { have h1 := (HO6.out.lt go2 rfl).2; rcases hg2 with h | h; { rw [h]; exact hgo6 }; { have h3 := Nat.le_trans (hBA _).size h; omega } }; clear hq7 hg7 hg2 hBA))
                    | (at_builtin; go_must (refine wpList_app E_Id _ rfl _ _ rfl w.heap.size _ p (idCells acc) rfl (HO5.out.keptBelowJ ((Below.refl _ v4).alloc (Nat.le_refl _) _)) _ _ _ _ rfl (Reads.new rfl) (by simp [Value.oneCell']) (by omega) (Nat.le_trans BW5.out.size (by simp)) ?_; intro vv v6 hown6 hg6 hat6; replace hg6 : World.grownBy _ v6 (some go) := hg6; obtain ⟨go2, kv2, rfl, hgo2⟩ := own_at3 hown6 (show _ = some go ∨ _ = some _ from hat6); have hgo3 : go2 = go ∨ v4.heap.size ≤ go2 := hgo2.imp id (fun h => by rw [h]; simp); have hBA : ∀ o, Below v4.heap.size v4 (v4.alloc o) := (fun o => (Below.refl _ v4).alloc (Nat.le_refl _) o); have HO6 := Lib.hid (show v6.ownsRow w.heap.size 36 2 (.slice (some ⟨go2, 0, none⟩) (p + 1) kv2) (p + 1) (idCells (acc ++ [t])) by rw [idCells_app]; exact hown6); have HQ6 := Lib.hid ((HQ5.out.below (hBA _)).kept hg6 (fun e => hgg e.symm)); have HTB6 := Lib.hid ((HTB4.out.below (hBA _)).grown hg6 (by omega)); have HD6 := Lib.hid ((HD5.out.below (hBA _)).out hg6 (hgo2.imp id (fun h => by rw [h]; exact Nat.le_refl _))); have BW6 := Lib.hid (Below.grown (BW5.out.trans ((hBA _).mono BW5.out.size)) hg6 (Nat.le_trans BW5.out.size (hBA _).size) (fun k hk => by injection hk with hk; have := (HO5.out.lt go rfl).1; omega)); have hs6 : v4.heap.size ≤ v6.heap.size := Nat.le_trans (hBA _).size hg6.size; have hgo6 : go2 ≠ g := by { have := HQ5.out.lt; rcases hgo3 with h | h <;> omega }; clear hown6 hg6 hat6 hgo2 hBA))
                    | fail)
                  exact ⟨⟨acc ++ [t], q ++ [t], p + 1, qn + 1, go2, kv2, g2, off2, qc2, j + 1, by rw [List.length_append, ← show p = acc.length from HP.out]; rfl, by omega, by omega, rfl, rfl, by go_num, by omega, HS2.out, HO7.out, HQ7.out, hgo7, HD7.out, BW7.out⟩, by simp only [intOf]; omega⟩
              · have hje : j = d.length := by omega
                subst hje
                have HS2 := Lib.hid (HS.out.leave (by rw [HDE.out]))
                go_wp2
                exact ⟨⟨acc, q, p, qn, go, kv, g, off, qc, HP.out, hp18', by omega, rfl, rfl, HS2.out, HO.out, HQ.out, hgg, BW.out⟩, by have h0 := HM0.out; simp only [slLen]; omega⟩
          · have hde : D y = [] := HDYN.out.2 hst
            have hsb : (z.status != 3) = true := by simpa using hst
            have HS2 := Lib.hid (HEN.out.leave (by rw [hde]; rfl))
            clear hde hst
            go_wp2
            exact ⟨⟨acc, q', p, (qn - 1), go, kv, g, (off + 2), (qc - 1), HP.out, hp18, by omega, rfl, rfl, HS2.out, HO3.out _, HQ3.out _, hgg, BW3.out _⟩, by simp only [slLen]; omega⟩
      · have hqe : qn = 0 := by omega
        subst hqe
        have hqn : q = [] := List.length_eq_zero_iff.1 hqr.len.symm
        subst hqn
        clear hqr
        go_wp2_with fail
        refine (sort_own w.heap.size go p kv acc _ HP.out (by omega) HO.out).mono ?_
        rintro e w5 ⟨rfl, ys, hpm, hwk, ho5, hg5⟩
        have hre := HEND.out acc ys HS.out hpm hwk
        have hpl : p = R.length := by rw [hre, hpm.length_eq]; exact HP.out
        rw [← hre] at ho5
        have HM := Lib.hid (mine_ids ho5 hpl)
        have HL := Lib.hid hpl
        have B5 := Lib.hid (Below.grown BW.out hg5 BW.out.size (fun k hk => (HO.out.lt k hk).1))
        clear ho5 hg5 hpl hre hpm hwk
        go_wp2
        go_ret
        exact ⟨_, p, kv, ret_eq rfl, HL.out, HM.out, B5.out⟩

end Go.Proofs.Ytoffelfcmfpooaa
