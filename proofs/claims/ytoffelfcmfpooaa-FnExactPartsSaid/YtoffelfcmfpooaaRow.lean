/-
  Laws for structs that lie in slices: loaded whole, stored whole; blocks of one's own said cell by cell. Conditions: as each law names them.
-/
import Derived.Test.YtoffelfcmfpooaaDat
import Derived.Laws.Cells
namespace Go.Proofs.Ytoffelfcmfpooaa
open Go.RowKit

section
variable {P : Program}
/-- a struct type of so many cells -/
structure Agg (P : Program) (t : TypeId) (n : Nat) : Prop where
  agg : (match P.underlying t with | some (.struct _) => true | _ => false) = true
  info : (P.info? t).map (fun i => i.size) = some n
theorem Agg.isAgg {t : TypeId} {n : Nat} (h : Agg P t n) (w : World) : (isAgg t).run P w = .ok true w := by
  have h1 := h.agg
  split at h1
  · rename_i fs hfs
    unfold Go.isAgg
    simp [Sem.run_bind, run_underlying hfs, Result.andThen]
  · cases h1
theorem Agg.size {t : TypeId} {n : Nat} (h : Agg P t n) (w : World) : (sizeOf t).run P w = .ok n w := by
  obtain ⟨i, hi, hz⟩ := Option.map_eq_some_iff.1 h.info
  unfold sizeOf typeInfo Go.program
  simp only [Sem.run_bind, Sem.run, Result.andThen, hi, hz, Sem.run_pure]
theorem run_load_row (w : World) {t : TypeId} (p : Addr) (cs : List Value) (h : Agg P t cs.length) (hc : ∀ j v, cs[j]? = some v → w.cell? (p.add j) = some v) :
    (Instr.loadAt t (.pointer (some p))).run P w = .ok (.agg cs.toArray) w := by
  unfold Instr.loadAt Instr.sureAddr loadVar
  simp only [Sem.run_bind, Sem.run_pure, Result.andThen, h.isAgg, h.size, if_true]
  rw [run_loadCells_list (P := P) (w := w) p cs hc]
theorem wpList_load_row (w : World) {ops : Array Oper} {rest : List Oper} {a : Act} {Q : Exit → Act → World → Prop} {t ty : TypeId} {x : Operand} {ps : String} {af : Array Edge} {dst : Option Tmp} (p : Addr) (hx : a.eval x = .pointer (some p)) (cs : List Value) {n : Nat} (h : Agg P t n) (hl : cs.length = n)
    (hc : ∀ j v, cs[j]? = some v → w.cell? (p.add j) = some v) (hK : wpList P ops Q rest (a.put dst (.agg cs.toArray)) w) : wpList P ops Q ({ dst := dst, op := Op.load t x, type := ty, pos := ps, after := af, guard := none } :: rest) a w := by
  refine wpList_plain rfl fun K hK' => ?_
  unfold Oper.wp
  simp only [execOp, hx, Sem.run_bind, run_load_row w p cs (hl ▸ h) hc, Result.andThen, Sem.run_pure]
  exact hK' _ _ hK
/-- .. guarded, and the guard holds -/
theorem wpList_load_row_g (w : World) {ops : Array Oper} {rest : List Oper} {a : Act} {Q : Exit → Act → World → Prop} {t ty : TypeId} {x : Operand} {ps : String} {af : Array Edge} {dst : Option Tmp} {gd : Option (Nat × Bool)}
    (hw : Region.wanted { dst := dst, op := Op.load t x, type := ty, pos := ps, after := af, guard := gd } (yielded ops a.tmps) = true) (p : Addr) (hx : a.eval x = .pointer (some p)) (cs : List Value) {n : Nat} (h : Agg P t n) (hl : cs.length = n)
    (hc : ∀ j v, cs[j]? = some v → w.cell? (p.add j) = some v) (hK : wpList P ops Q rest (a.put dst (.agg cs.toArray)) w) : wpList P ops Q ({ dst := dst, op := Op.load t x, type := ty, pos := ps, after := af, guard := gd } :: rest) a w := by
  simp only [wpList, hw, if_true]
  refine .inl ?_
  unfold Oper.wp
  simp only [execOp, hx, Sem.run_bind, run_load_row w p cs (hl ▸ h) hc, Result.andThen, Sem.run_pure]
  exact hK
end

/-! ### a row of one's own -/
theorem Rep.one {B : Nat → Prop} {w : World} : ∀ {d : Cs} {cs : List Value}, Rep B w d cs → ∀ u ∈ cs, u.oneCell' = true
  | .nil, _, h => by simp only [Rep] at h; subst h; simp
  | .int _ r, _, h => by simp only [Rep] at h; obtain ⟨c', rfl, h⟩ := h; intro u hu; rcases List.mem_cons.1 hu with rfl | hu; rfl; exact h.one u hu
  | .bool _ r, _, h => by simp only [Rep] at h; obtain ⟨c', rfl, h⟩ := h; intro u hu; rcases List.mem_cons.1 hu with rfl | hu; rfl; exact h.one u hu
  | .str _ r, _, h => by simp only [Rep] at h; obtain ⟨c', rfl, h⟩ := h; intro u hu; rcases List.mem_cons.1 hu with rfl | hu; rfl; exact h.one u hu
  | .sl _ _ _ _ r, _, h => by simp only [Rep] at h; obtain ⟨_, _, _, c', rfl, _, _, _, h⟩ := h; intro u hu; rcases List.mem_cons.1 hu with rfl | hu; rfl; exact h.one u hu
theorem Own.one {w : World} {base : Nat} {d : Cs} {cs : List Value} {F : List Nat} (h : Own w base d cs F) : ∀ u ∈ cs, u.oneCell' = true := h.repAny.one
theorem Own.length {w : World} {base : Nat} {d : Cs} {cs : List Value} {F : List Nat} (h : Own w base d cs F) : cs.length = d.width := h.repAny.length
theorem Own.sl1 {w : World} {base e sz n : Nat} {i : Cs} {v : Value} {F : List Nat} : Own w base (.sl e sz n i .nil) [v] F ↔ ∃ cells F1, F = v.ownBlock.toList ++ F1 ∧ i.width = n * sz ∧ w.ownsRow base e sz v n cells ∧ Own w base i cells F1 := by
  simp only [Own]
  constructor
  · rintro ⟨v, cells, c', F1, F2, he, rfl, h1, h2, h3, rfl, rfl⟩
    injection he with he _
    subst he
    exact ⟨cells, F1, List.append_nil _, h1, h2, h3⟩
  · rintro ⟨cells, F1, rfl, h1, h2, h3⟩
    exact ⟨v, cells, [], F1, [], rfl, (List.append_nil _).symm, h1, h2, h3, rfl, rfl⟩
section
variable {P : Program}
theorem setRow_blk {w : World} {g e : Nat} {cur cs : Array Value} (h : Blk w g e cur) : Blk (w.setRow g cs) g e cs := setRow_heap w g cur cs e (0, 0) h
theorem setRow_grown (w : World) (g : Nat) (cs : Array Value) : w.grownBy (w.setRow g cs) (some g) :=
  ⟨rfl, rfl, rfl, by simp [World.setRow], fun k _ hn => by
    simp only [World.setRow, Array.getElem?_modify]
    rw [if_neg (fun e => hn (by rw [e]))]⟩
theorem wpList_store_row (w : World) {ops : Array Oper} {rest : List Oper} {a : Act} {Q : Exit → Act → World → Prop} {t ty : TypeId} {x y : Operand} {ps : String} {af : Array Edge} (g e off : Nat) (cs A M C : List Value) (cur : Array Value) (hx : a.eval x = .pointer (some ⟨g, off, none⟩)) (hy : a.eval y = .agg cs.toArray) (h : Agg P t cs.length)
    (hb : Blk w g e cur) (hc : cur.toList = A ++ (M ++ C)) (hA : A.length = off) (hM : M.length = cs.length) (h1 : ∀ u ∈ cs, u.oneCell' = true)
    (hK : ∀ w', Blk w' g e (A ++ (cs ++ C)).toArray → w.grownBy w' (some g) → wpList P ops Q rest a w') : wpList P ops Q ({ dst := none, op := Op.store t x y, type := ty, pos := ps, after := af, guard := none } :: rest) a w := by
  refine wpList_plain rfl fun K hK' => ?_
  have hsz : cur.size = A.length + (M.length + C.length) := by
    have := congrArg List.length hc
    simpa using this
  have hs := run_storeCells_at (P := P) g off e cs 0 cur w hb (by omega) h1
  have e1 : cur.toList.take (off + 0) ++ cs ++ cur.toList.drop (off + 0 + cs.length) = A ++ (cs ++ C) := by
    rw [Nat.add_zero, hc, ← hA, ← hM, List.take_left', List.append_assoc, ← List.append_assoc A M C, ← List.length_append, List.drop_left']
    all_goals rfl
  rw [e1] at hs
  have hrun : (Instr.storeAt t (.pointer (some ⟨g, off, none⟩)) (.agg cs.toArray)).run P w = .ok () (w.setRow g (A ++ (cs ++ C)).toArray) := by
    unfold Instr.storeAt Instr.sureAddr storeVar
    simp [Sem.run_bind, Sem.run_pure, Result.andThen, Value.cells, h.size, hs]
  unfold Oper.wp
  simp only [execOp, hx, hy, Sem.run_bind, Sem.run_pure, Result.andThen, hrun]
  exact hK' (a.put none undef) (w.setRow g (A ++ (cs ++ C)).toArray) (hK _ (setRow_blk hb) (setRow_grown _ _ _))
end
/-! ### sizes -/
def szZ (l : Int) (n : Nat) : Int := if (n : Int) ≤ l then l - n else -1
theorem szZ_yes {l : Int} {n : Nat} (h : (n : Int) ≤ l) : szZ l n = l - n := if_pos h
theorem szZ_no {l : Int} {n : Nat} (h : ¬ (n : Int) ≤ l) : szZ l n = -1 := if_neg h
/-- numbers and lengths as the form of the arguments bounds them -/
def Cs.ok : Cs → Prop
  | .nil => True
  | .int n r => i64ok n ∧ r.ok
  | .bool _ r => r.ok
  | .str s r => s.length ≤ 9223372036854775807 ∧ r.ok
  | .sl _ _ n i r => n ≤ 9223372036854775807 ∧ i.ok ∧ r.ok
theorem Cs.ok_app {b : Cs} : ∀ {a : Cs}, (a.app b).ok ↔ a.ok ∧ b.ok
  | .nil => by simp [app, ok]
  | .int _ r => by simp only [app, ok, ok_app (a := r), and_assoc]
  | .bool _ r => by simp only [app, ok, ok_app (a := r)]
  | .str _ r => by simp only [app, ok, ok_app (a := r), and_assoc]
  | .sl _ _ _ _ r => by simp only [app, ok, ok_app (a := r), and_assoc]
section
variable {α : Type} {f : α → Cs}
theorem cat_ok {xs : List α} (h : (cat f xs).ok) (j : Nat) (hj : j < xs.length) : (f xs[j]).ok := by
  rw [cat_split xs j hj, Cs.ok_app, Cs.ok_app] at h
  exact h.2.1
theorem cat_wt_take (xs : List α) (j : Nat) (hj : j < xs.length) : (cat f (xs.take (j + 1))).wt = (cat f (xs.take j)).wt + (f xs[j]).wt := by
  rw [List.take_succ_eq_append_getElem hj, cat_app, cat_one, Cs.wt_app]
theorem cat_wt_take_le (xs : List α) (j : Nat) : (cat f (xs.take j)).wt ≤ (cat f xs).wt := by
  conv => rhs; rw [← List.take_append_drop j xs]
  rw [cat_app, Cs.wt_app]
  omega
theorem cat_take_succ (xs : List α) (j : Nat) (hj : j < xs.length) : cat f (xs.take (j + 1)) = (cat f (xs.take j)).app (f xs[j]) := by
  rw [List.take_succ_eq_append_getElem hj, cat_app, cat_one]
theorem cat_cnt_take (xs : List α) (j : Nat) (hj : j < xs.length) : (cat f (xs.take (j + 1))).cnt = (cat f (xs.take j)).cnt + (f xs[j]).cnt := by
  rw [List.take_succ_eq_append_getElem hj, cat_app, cat_one, Cs.cnt_app]
theorem cat_cnt_take_le (xs : List α) (j : Nat) : (cat f (xs.take j)).cnt ≤ (cat f xs).cnt := by
  conv => rhs; rw [← List.take_append_drop j xs]
  rw [cat_app, Cs.cnt_app]
  omega
end
/-- all old cells and marks read as before -/
theorem bcell {W w1 : World} (hb : Below W.heap.size W w1) : (∀ b o, b < W.heap.size → w1.cell? ⟨b, o, none⟩ = W.cell? ⟨b, o, none⟩) ∧ (∀ b o, b < W.heap.size → w1.frozen? ⟨b, o, none⟩ = W.frozen? ⟨b, o, none⟩) :=
  ⟨fun b o h => hb.cell (p := ⟨b, o, none⟩) h, fun b o h => hb.frozen (p := ⟨b, o, none⟩) h⟩
def strC (s : List UInt8) : Cs := .str s .nil
def intC (n : Int) : Cs := .int n .nil
theorem strC_width (s : List UInt8) : (strC s).width = 1 := rfl
theorem intC_width (n : Int) : (intC n).width = 1 := rfl
theorem strC_cnt (s : List UInt8) : (strC s).cnt = 1 := rfl
theorem intC_cnt (n : Int) : (intC n).cnt = 1 := rfl
theorem strs_wt : ∀ xs : List (List UInt8), (cat strC xs).wt = (xs.map List.length).sum
  | [] => rfl
  | x :: xs => by rw [cat_cons, Cs.wt_app, strs_wt xs]; simp [strC, Cs.wt]
theorem rep_strs {B : Nat → Prop} {w : World} : ∀ {xs : List (List UInt8)} {cells : List Value}, Rep B w (cat strC xs) cells → cells = xs.map strv
  | [], _, h => by simp only [cat, Rep] at h; exact h
  | x :: xs, _, h => by
    rw [cat_cons] at h
    simp only [strC, Cs.app, Rep] at h
    obtain ⟨c', rfl, h⟩ := h
    rw [rep_strs h]; rfl
theorem rep_strs_mk (B : Nat → Prop) (w : World) : ∀ (xs : List (List UInt8)), Rep B w (cat strC xs) (xs.map strv)
  | [] => by simp only [cat, Rep]; rfl
  | x :: xs => by
    rw [cat_cons]
    simp only [strC, Cs.app, Rep]
    exact ⟨_, rfl, rep_strs_mk B w xs⟩
theorem own_strs {w : World} {base : Nat} : ∀ {xs : List (List UInt8)} {cells : List Value} {F : List Nat}, Own w base (cat strC xs) cells F → cells = xs.map strv ∧ F = []
  | [], _, _, h => by simp only [cat, Own] at h; exact h
  | x :: xs, _, _, h => by
    rw [cat_cons] at h
    simp only [strC, Cs.app, Own] at h
    obtain ⟨c', rfl, h⟩ := h
    obtain ⟨rfl, rfl⟩ := own_strs h
    exact ⟨rfl, rfl⟩
theorem own_strs_mk (w : World) (base : Nat) : ∀ (xs : List (List UInt8)), Own w base (cat strC xs) (xs.map strv) []
  | [] => by simp [cat, Own]
  | x :: xs => by
    rw [cat_cons]
    simp only [strC, Cs.app, Own]
    exact ⟨_, rfl, own_strs_mk w base xs⟩
theorem Rep.strs {B : Nat → Prop} {w : World} {e n : Nat} {xs : List (List UInt8)} {v : Value} (h : Rep B w (.sl e 1 n (cat strC xs) .nil) [v]) : SlR w 1 v n (xs.map strv) := by
  simp only [Rep] at h
  obtain ⟨A, c, cells, _, he, hw, hne, hL, rfl⟩ := h
  injection he with he _
  subst he
  have hl := hL.length
  rw [hw] at hl
  obtain rfl := rep_strs hL
  refine ⟨A, c, rfl, hl, fun hn => ?_⟩
  obtain ⟨ad, rfl, _, _, hc⟩ := hne (by omega)
  exact ⟨ad, rfl, hc⟩
theorem Own.strs {w : World} {base e n : Nat} {xs : List (List UInt8)} {v : Value} {F : List Nat} (h : Own w base (.sl e 1 n (cat strC xs) .nil) [v] F) : w.ownsRow base e 1 v n (xs.map strv) ∧ F = v.ownBlock.toList := by
  obtain ⟨cells, F1, rfl, h1, h2, h3⟩ := Own.sl1.1 h
  obtain ⟨rfl, rfl⟩ := own_strs h3
  exact ⟨h2, List.append_nil _⟩
theorem Own.strs_mk {w : World} {base e n : Nat} {xs : List (List UInt8)} {v : Value} (hn : n = xs.length) (h : w.ownsRow base e 1 v n (xs.map strv)) : Own w base (.sl e 1 n (cat strC xs) .nil) [v] v.ownBlock.toList :=
  Own.sl1.2 ⟨_, [], (List.append_nil _).symm, by rw [cat_width strC_width, hn], h, own_strs_mk w base xs⟩
theorem Mine.strs_mk {w : World} {base e n : Nat} {xs : List (List UInt8)} {v : Value} (hn : n = xs.length) (h : w.ownsRow base e 1 v n (xs.map strv)) : Mine w base (.sl e 1 n (cat strC xs) .nil) [v] :=
  ⟨_, by cases v.ownBlock <;> simp, Own.strs_mk hn h⟩
theorem marks_cons (k n : Nat) : marks k (n + 1) = markL k :: marks (k + 1) n := by
  simp only [marks, List.range_succ_eq_map, List.map_cons, List.map_map, Nat.add_zero]
  congr 1
  apply List.map_congr_left
  intro i _
  simp only [Function.comp]
  congr 1
  omega
theorem strs_mkE : ∀ (xs : List (List UInt8)) (k : Nat), (cat strC xs).mkE k = cat strC (marks k xs.length)
  | [], k => rfl
  | x :: xs, k => by
    rw [cat_cons, Cs.mkE_app, List.length_cons, marks_cons, cat_cons, strs_mkE xs]
    rfl
/-! ### marks laid over a list -/
def mks {α : Type} (mk : α → Nat → α) (cnt : α → Nat) : List α → Nat → List α
  | [], _ => []
  | x :: xs, k => mk x k :: mks mk cnt xs (k + cnt x)
def cts {α : Type} (cnt : α → Nat) : List α → Nat
  | [] => 0
  | x :: xs => cnt x + cts cnt xs
section
variable {α : Type} {mk : α → Nat → α} {cnt : α → Nat}
theorem mks_length : ∀ (xs : List α) (k : Nat), (mks mk cnt xs k).length = xs.length
  | [], _ => rfl
  | x :: xs, k => by rw [mks, List.length_cons, mks_length xs, List.length_cons]
theorem cts_append (ys : List α) : ∀ xs : List α, cts cnt (xs ++ ys) = cts cnt xs + cts cnt ys
  | [] => by simp [cts]
  | x :: xs => by rw [List.cons_append, cts, cts_append ys xs, cts]; omega
theorem mks_append (ys : List α) : ∀ (xs : List α) (k : Nat), mks mk cnt (xs ++ ys) k = mks mk cnt xs k ++ mks mk cnt ys (k + cts cnt xs)
  | [], k => by simp [mks, cts]
  | x :: xs, k => by rw [List.cons_append, mks, mks_append ys xs, mks, cts, List.cons_append, Nat.add_assoc]
theorem cts_take_succ (xs : List α) (j : Nat) (hj : j < xs.length) : cts cnt (xs.take (j + 1)) = cts cnt (xs.take j) + cnt xs[j] := by
  rw [List.take_succ_eq_append_getElem hj, cts_append]; simp [cts]
theorem cts_take_le (xs : List α) (j : Nat) : cts cnt (xs.take j) ≤ cts cnt xs := by
  conv => rhs; rw [← List.take_append_drop j xs]
  rw [cts_append]; omega
theorem mks_take_succ (xs : List α) (k j : Nat) (hj : j < xs.length) : mks mk cnt (xs.take (j + 1)) k ++ xs.drop (j + 1) = mks mk cnt (xs.take j) k ++ (mk xs[j] (k + cts cnt (xs.take j)) :: xs.drop (j + 1)) := by
  rw [List.take_succ_eq_append_getElem hj, mks_append, List.append_assoc]; rfl
theorem mks_take_drop (xs : List α) (k j : Nat) (hj : j < xs.length) : mks mk cnt (xs.take j) k ++ xs.drop j = mks mk cnt (xs.take j) k ++ (xs[j] :: xs.drop (j + 1)) := by
  rw [List.drop_eq_getElem_cons hj]
theorem mks_get (xs : List α) (k j : Nat) (hj : j < xs.length) : (mks mk cnt xs k)[j]'(by rw [mks_length]; exact hj) = mk xs[j] (k + cts cnt (xs.take j)) := by
  have h : mks mk cnt xs k = mks mk cnt (xs.take j) k ++ (mk xs[j] (k + cts cnt (xs.take j)) :: mks mk cnt (xs.drop (j + 1)) (k + cts cnt (xs.take j) + cnt xs[j])) := by
    conv => lhs; rw [← List.take_append_drop j xs]
    rw [mks_append, List.drop_eq_getElem_cons hj, mks]
  have hl : (mks mk cnt (xs.take j) k).length = j := by rw [mks_length, List.length_take, Nat.min_eq_left (by omega)]
  have h2 : (mks mk cnt xs k)[j]? = some (mk xs[j] (k + cts cnt (xs.take j))) := by
    rw [h, List.getElem?_append_right (by omega), hl, Nat.sub_self]; rfl
  have h3 := List.getElem?_eq_getElem (l := mks mk cnt xs k) (i := j) (by rw [mks_length]; exact hj)
  rw [h3] at h2
  exact Option.some.inj h2
end
theorem mks_strs : ∀ (xs : List (List UInt8)) (k : Nat), mks (fun _ k => markL k) (fun _ => 1) xs k = marks k xs.length
  | [], _ => rfl
  | x :: xs, k => by rw [mks, List.length_cons, marks_cons, mks_strs xs]
theorem cts_one {α : Type} : ∀ xs : List α, cts (fun _ => 1) xs = xs.length
  | [] => rfl
  | x :: xs => by rw [cts, cts_one xs, List.length_cons]; omega

/-! ### one element of a slice of one's own, turned -/
theorem own_round {w : World} {base e sz n c g : Nat} {α : Type} {f : α → Cs} {a b : List α} {x : α} {F : List Nat} (hf : ∀ x, (f x).width = sz)
    (h : Own w base (.sl e sz n (cat f (a ++ x :: b)) .nil) [.slice (some ⟨g, 0, none⟩) n c] F) :
    ∃ c1 c2 c3 spare G1 G2 G3, F = g :: (G1 ++ (G2 ++ G3)) ∧ Own w base (cat f a) c1 G1 ∧ Own w base (f x) c2 G2 ∧ Own w base (cat f b) c3 G3 ∧ c1.length = a.length * sz ∧ base ≤ g ∧ Blk w g e (c1 ++ (c2 ++ (c3 ++ spare))).toArray ∧
      ∀ w' x' c2', Own w' base (cat f a) c1 G1 → Own w' base (f x') c2' G2 → Own w' base (cat f b) c3 G3 → Blk w' g e (c1 ++ (c2' ++ (c3 ++ spare))).toArray → Own w' base (.sl e sz n (cat f (a ++ x' :: b)) .nil) [.slice (some ⟨g, 0, none⟩) n c] F := by
  obtain ⟨cells, F1, rfl, hw, hr, hi⟩ := Own.sl1.1 h
  rw [cat_app, cat_cons] at hi
  obtain ⟨c1, _, G1, _, rfl, rfl, h1, hi⟩ := Own.app.1 hi
  obtain ⟨c2, c3, G2, G3, rfl, rfl, h2, h3⟩ := Own.app.1 hi
  have hr2 := hr.2
  rcases hr2 with ⟨h0, _⟩ | ⟨g', cap, cur, hv, hb, hh, hnc, hcm, hs, ht⟩
  · cases h0
  injection hv with e1 _ e3
  injection e1 with e1
  injection e1 with e1
  subst e1 e3
  have hcur : cur.toList = c1 ++ (c2 ++ (c3 ++ cur.toList.drop (n * sz))) := by
    conv => lhs; rw [← List.take_append_drop (n * sz) cur.toList, ht]
    simp only [List.append_assoc]
  have hl1 : c1.length = a.length * sz := by rw [h1.length, cat_width hf]
  have hl2 : c2.length = sz := by rw [h2.length, hf]
  have hcs : cur = (c1 ++ (c2 ++ (c3 ++ cur.toList.drop (n * sz)))).toArray := by rw [← hcur, Array.toArray_toList]
  refine ⟨c1, c2, c3, cur.toList.drop (n * sz), G1, G2, G3, rfl, h1, h2, h3, hl1, hb, by rw [← hcs]; exact hh, fun w' x' c2' o1 o2 o3 hb' => ?_⟩
  have hl2' : c2'.length = sz := by rw [o2.length, hf]
  refine Own.sl1.2 ⟨c1 ++ (c2' ++ c3), G1 ++ (G2 ++ G3), rfl, ?_, ⟨?_, .inr ⟨g, c, _, rfl, hb, hb', hnc, hcm, ?_, ?_⟩⟩, ?_⟩
  · rw [cat_app, cat_cons, Cs.width_app, Cs.width_app, hf] at hw ⊢
    exact hw
  · have := hr.1
    simp only [List.length_append] at this ⊢
    omega
  · rw [← hs]
    conv => rhs; rw [hcs]
    simp only [List.size_toArray, List.length_append]
    omega
  · have hlen : (c1 ++ (c2' ++ c3)).length = n * sz := by
      have := hr.1
      simp only [List.length_append] at this ⊢
      omega
    simp only []
    rw [show c1 ++ (c2' ++ (c3 ++ cur.toList.drop (n * sz))) = (c1 ++ (c2' ++ c3)) ++ cur.toList.drop (n * sz) by simp only [List.append_assoc], ← hlen, List.take_left']
    rfl
  · rw [cat_app, cat_cons]
    exact Own.app.2 ⟨_, _, _, _, rfl, rfl, o1, Own.app.2 ⟨_, _, _, _, rfl, rfl, o2, o3⟩⟩
theorem blk_get {w : World} {g e m : Nat} {L1 E L2 : List Value} (h : Blk w g e (L1 ++ (E ++ L2)).toArray) (hm : L1.length = m) {f : Nat} {u : Value} (hf : E[f]? = some u) : w.cell? ⟨g, m + f, none⟩ = some u := by
  subst hm
  rw [h.cell]
  simp only [List.getElem?_toArray]
  rw [List.getElem?_append_right (by omega), Nat.add_sub_cancel_left, List.getElem?_append_left (List.getElem?_eq_some_iff.1 hf).1]
  exact hf
theorem blk_put {w : World} {g e m : Nat} {L1 E L2 : List Value} (h : Blk w g e (L1 ++ (E ++ L2)).toArray) (hm : L1.length = m) {f : Nat} (v : Value) (hf : f < E.length) : Blk (w.setCell ⟨g, m + f, none⟩ v) g e (L1 ++ (E.set f v ++ L2)).toArray := by
  subst hm
  have := h.set (L1.length + f) v
  simp only [List.setIfInBounds_toArray] at this
  rw [List.set_append_right _ _ (by omega), Nat.add_sub_cancel_left, List.set_append_left _ _ hf] at this
  exact this
theorem Own.mod1 {w w' : World} {base : Nat} {d : Cs} {cs : List Value} {F : List Nat} (h : Own w base d cs F) {F' : List Nat} (hm : Mod F' w w') (hd : ∀ b ∈ F, b ∉ F') : Own w' base d cs F := h.mod hm hd
/-! ### locals that are structs -/
theorem blk_new (w : World) (cs : Array Value) (e : Nat) : Blk (w.alloc (.cells cs e)) w.heap.size e cs := heap_alloc_new w _
theorem Blk.setOther {w : World} {g e : Nat} {cs : Array Value} (h : Blk w g e cs) {a : Addr} (ha : a.block ≠ g) (v : Value) : Blk (w.setCell a v) g e cs := h.keep (Below.heap_setCell _ _ _ _ (fun e => ha e.symm))
theorem Blk.grown {w w' : World} {g e g' : Nat} {cs : Array Value} (h : Blk w g e cs) (hg : w.grownBy w' (some g')) (hn : g ≠ g') : Blk w' g e cs := h.keep (hg.block g h.lt (fun e => hn (by injection e)))
theorem blk_cells {w : World} {g e : Nat} {L : List Value} (h : Blk w g e L.toArray) : ∀ j v, L[j]? = some v → w.cell? ((⟨g, 0, none⟩ : Addr).add j) = some v := fun j v hv => by
  rw [add_plain, Nat.zero_add, h.cell]
  simpa using hv
theorem blk_cell0 {w : World} {g e : Nat} {L : List Value} (h : Blk w g e L.toArray) (f : Nat) {u : Value} (hf : L[f]? = some u) : w.cell? ⟨g, f, none⟩ = some u := by
  rw [h.cell]; simpa using hf
theorem blk_put0 {w : World} {g e : Nat} {L : List Value} (h : Blk w g e L.toArray) (f : Nat) (v : Value) : Blk (w.setCell ⟨g, f, none⟩ v) g e (L.set f v).toArray := by
  have := h.set f v
  simpa only [List.setIfInBounds_toArray] using this
/-- the blocks from B on stay -/
structure Above (B : Nat) (w w' : World) : Prop where
  size : w.heap.size ≤ w'.heap.size
  blk : ∀ b, B ≤ b → b < w.heap.size → w'.heap[b]? = w.heap[b]?
theorem Above.refl (B : Nat) (w : World) : Above B w w := ⟨Nat.le_refl _, fun _ _ _ => rfl⟩
theorem Above.setCell {B : Nat} {a w : World} (h : Above B a w) {p : Addr} (hp : p.block < B) (v : Value) : Above B a (w.setCell p v) :=
  ⟨by simpa [World.setCell] using h.size, fun b h1 h2 => (Below.heap_setCell _ _ _ _ (by omega)).trans (h.blk b h1 h2)⟩
theorem Above.below {B : Nat} {a w w' : World} (h : Above B a w) (hb : Below w.heap.size w w') : Above B a w' :=
  ⟨Nat.le_trans h.size hb.size, fun b h1 h2 => (hb.block b (Nat.lt_of_lt_of_le h2 h.size)).trans (h.blk b h1 h2)⟩
theorem Above.grown {B g : Nat} {a w w' : World} (h : Above B a w) (hg : w.grownBy w' (some g)) (hB : g < B) : Above B a w' :=
  ⟨Nat.le_trans h.size hg.size, fun b h1 h2 => (hg.block b (Nat.lt_of_lt_of_le h2 h.size) (fun e => by injection e with e; omega)).trans (h.blk b h1 h2)⟩
theorem Above.alloc {B : Nat} {a w : World} (h : Above B a w) (o : Obj) : Above B a (w.alloc o) := h.below ((Below.refl _ _).alloc (Nat.le_refl _) o)
theorem Above.drew {B : Nat} {a w : World} (h : Above B a w) : Above B a w.drew := ⟨h.size, h.blk⟩
theorem Own.above {w w' : World} {base base' : Nat} {d : Cs} {cs : List Value} {F : List Nat} (h : Own w base d cs F) (ha : Above base w w') (hb : base' ≤ base) : Own w' base' d cs F :=
  h.keep0 fun b hm => ⟨Nat.le_trans hb (h.in b hm).1, ha.blk b (h.in b hm).1 (h.in b hm).2⟩
theorem bodyPost_cell {P : Program} {fn : Func} {R : Ending → World → Prop} {a : Act} {w : World} {s : Tmp} {t n : Nat} (hres : fn.results = #[.cell s t]) (p : Addr) (hp : a.tmps.getD s undef = .pointer (some p)) (cs : List Value) (h : Agg P t n) (hl : cs.length = n)
    (hc : ∀ j v, cs[j]? = some v → w.cell? (p.add j) = some v) (hd : a.defers = []) (hR : R (.returned (.agg cs.toArray)) w) : bodyPost P fn R .ret a w := by
  refine bodyPost_ret (v := .agg cs.toArray) ?_ hd hR
  unfold results
  rw [hres]
  have hp2 : a.tmps[s]?.getD undef = .pointer (some p) := by simpa using hp
  simp [hp2, asAddr, loadVar, (hl ▸ h : Agg P t cs.length).isAgg, (hl ▸ h : Agg P t cs.length).size, run_loadCells_list (P := P) (w := w) p cs hc, Result.andThen]
theorem wpX_skip2 {P : Program} {ops : Array Oper} {Q : Exit → Act → World → Prop} {tail : List Oper} {i : Nat} {r : List Nat} {T : Array Value} {D : List Deferred} {w : World} {o : Oper} {d : Tmp} (hi : ops[i]? = some o) (hd : o.dst = some d) (hw : Region.wanted o (yielded ops T) = false)
    (h : wpX P ops Q tail r ⟨T.setIfInBounds d undef, D⟩ w) : wpX P ops Q tail (i :: r) ⟨T, D⟩ w :=
  wpX_skip hi hw (by rw [hd]; exact h)
end Go.Proofs.Ytoffelfcmfpooaa
