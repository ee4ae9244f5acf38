/-
  An instance put into a rising row, plain: the rising row with it. No condition.
  Rows of instances made anew: copyInsts, l8CopyAll. Conditions: a bound on the sizes.
  An instance put into a row: spec.l8Put, spec.InstPut. Conditions: a bound on the sizes.
  An element of an owned row changed for another one that is owned. No condition.
  slices.SortFunc laid at this program, in plain words (printed by the kit's tool). No condition.
  slices.SortFunc at rows of Ids, with compareIds. Conditions: the row is the call's own.
  slices.SortFunc laid at this program, in plain words (printed by the kit's tool). No condition.
  slices.SortFunc at rows of instances of the call's own, by their Ids. Conditions: as named.
  An instance put into a row: impl.InstPut. Conditions: a bound on the sizes.
  How many marks a datum takes, by its weight. No condition.
  How many marks a command takes, by its weight. No condition.
-/
import Derived.Test.YtoffelfcmfpooaaOrd
import Derived.Test.YtoffelfcmfpooaaInsts
import Derived.Test.YtoffelfcmfpooaaCpyI
import Derived.Test.YtoffelfcmfpooaaCpyIS
import Derived.Test.YtoffelfcmfpooaaJoin
import Derived.Great.BuildSlice
import Derived.Test.YtoffelfcmfpooaaInstAtI
import Derived.Shelf.SlSortCmp.WholeK
import Derived.Ground.SlsfProg
import Derived.Test.YtoffelfcmfpooaaProg
import Derived.Test.YtoffelfcmfpooaaAttrs
import Derived.Test.YtoffelfcmfpooaaTy
namespace Go.Proofs.Ytoffelfcmfpooaa

def AscI (xs : List InstD) : Prop := xs.Pairwise fun a b => idLt a.id b.id = true
theorem ascI_cons {x : InstD} {xs : List InstD} : AscI (x :: xs) ↔ (∀ y ∈ xs, idLt x.id y.id = true) ∧ AscI xs := List.pairwise_cons
theorem ascI_ext : ∀ {xs ys : List InstD}, AscI xs → AscI ys → (∀ x, x ∈ xs ↔ x ∈ ys) → xs = ys
  | [], [], _, _, _ => rfl
  | [], y :: ys, _, _, h => absurd ((h y).2 (by simp)) (by simp)
  | x :: xs, [], _, _, h => absurd ((h x).1 (by simp)) (by simp)
  | x :: xs, y :: ys, hx, hy, h => by
    obtain ⟨hx1, hx2⟩ := ascI_cons.1 hx
    obtain ⟨hy1, hy2⟩ := ascI_cons.1 hy
    have he : x = y := by
      rcases List.mem_cons.1 ((h x).1 (by simp)) with e | e
      · exact e
      · rcases List.mem_cons.1 ((h y).2 (by simp)) with e2 | e2
        · exact e2.symm
        · have h1 := hy1 x e
          have h2 := hx1 y e2
          rw [idLt_asymm h1] at h2; cases h2
    subst he
    congr 1
    refine ascI_ext hx2 hy2 fun z => ⟨fun hz => ?_, fun hz => ?_⟩
    · rcases List.mem_cons.1 ((h z).1 (List.mem_cons_of_mem _ hz)) with e | e
      · subst e
        have := hx1 z hz
        rw [idLt_irrefl] at this; cases this
      · exact e
    · rcases List.mem_cons.1 ((h z).2 (List.mem_cons_of_mem _ hz)) with e | e
      · subst e
        have := hy1 z hz
        rw [idLt_irrefl] at this; cases this
      · exact e
theorem insts_good {xs : List InstD} (h : instsOkB xs = true) : instsGood xs xs.length := by simpa [instsOkB] using h
theorem insts_asc {xs : List InstD} (h : instsOkB xs = true) : AscI xs := by
  have hg := insts_good h
  have step : ∀ (i : Nat) (hi : i + 1 < xs.length), idLt (xs[i]'(by omega)).id xs[i + 1].id = true := fun i hi => by
    obtain ⟨x, hx, _, h2⟩ := hg (i + 1) hi
    obtain ⟨_, rfl⟩ := List.getElem?_eq_some_iff.1 hx
    exact h2 _ (by omega) (List.getElem?_eq_getElem (by omega))
  refine List.pairwise_iff_getElem.2 fun i j hi hj hij => ?_
  obtain ⟨k, rfl⟩ : ∃ k, j = i + 1 + k := ⟨j - i - 1, by omega⟩
  clear hij
  induction k with
  | zero => exact step i hj
  | succ k ih => exact idLt_trans (ih (by omega)) (step (i + 1 + k) hj)
theorem insts_ok {xs : List InstD} (h : instsOkB xs = true) : ∀ x ∈ xs, instOkB x = true := fun x hx => by
  obtain ⟨i, hi, rfl⟩ := List.getElem_of_mem hx
  obtain ⟨y, hy, h1, _⟩ := insts_good h i hi
  obtain ⟨_, rfl⟩ := List.getElem?_eq_some_iff.1 hy
  exact h1
theorem insts_of {xs : List InstD} (h1 : AscI xs) (h2 : ∀ x ∈ xs, instOkB x = true) : instsOkB xs = true := instsOkB_yes fun i hi => by
  refine ⟨xs[i], List.getElem?_eq_getElem hi, h2 _ (List.getElem_mem hi), fun y hi0 hy => ?_⟩
  obtain ⟨hl, rfl⟩ := List.getElem?_eq_some_iff.1 hy
  exact List.pairwise_iff_getElem.1 h1 (i - 1) i hl hi (by omega)
/-- the reference's row: what it puts, from here on -/
def putA (x : InstD) : List InstD → Bool → List InstD
  | [], put => if put then [] else [x]
  | y :: r, put => (if put || idLt y.id x.id then [] else [x]) ++ ((if y.id = x.id then [] else [y]) ++ putA x r (put || !idLt y.id x.id))
def fPut (l : List InstD) (x : InstD) : List InstD := putA x l false
theorem putA_true (x : InstD) : ∀ r : List InstD, putA x r true = r.filter fun y => !decide (y.id = x.id)
  | [] => rfl
  | y :: r => by
    rw [putA, List.filter_cons, Bool.true_or, Bool.true_or, putA_true x r]
    by_cases h : y.id = x.id <;> simp [h]
theorem mem_putA {x z : InstD} : ∀ {r : List InstD} {p : Bool}, z ∈ putA x r p ↔ (z = x ∧ p = false) ∨ (z ∈ r ∧ ¬ z.id = x.id)
  | [], true => by simp [putA]
  | [], false => by simp [putA]
  | y :: r, true => by
    rw [putA_true]
    simp
  | y :: r, false => by
    rw [putA]
    simp only [Bool.false_or, List.mem_append, mem_putA (r := r)]
    cases h1 : idLt y.id x.id with
    | true =>
      have hne : ¬ y.id = x.id := fun e => by rw [e, idLt_irrefl] at h1; cases h1
      simp only [if_pos, if_neg hne, List.mem_cons, List.not_mem_nil, or_false, false_or]
      constructor
      · rintro (rfl | ⟨rfl, _⟩ | ⟨h, h2⟩)
        · exact .inr ⟨.inl rfl, hne⟩
        · exact .inl ⟨rfl, by trivial⟩
        · exact .inr ⟨.inr h, h2⟩
      · rintro (⟨rfl, _⟩ | ⟨rfl | h, h2⟩)
        · exact .inr (.inl ⟨rfl, by trivial⟩)
        · exact .inl rfl
        · exact .inr (.inr ⟨h, h2⟩)
    | false =>
      by_cases hne : y.id = x.id
      · simp only [Bool.false_eq_true, if_false, if_pos hne, List.mem_cons, List.not_mem_nil, or_false, false_or, Bool.not_false]
        constructor
        · rintro (rfl | ⟨_, h⟩ | ⟨h, h2⟩)
          · exact .inl ⟨rfl, by trivial⟩
          · cases h
          · exact .inr ⟨.inr h, h2⟩
        · rintro (⟨rfl, _⟩ | ⟨rfl | h, h2⟩)
          · exact .inl rfl
          · exact absurd hne h2
          · exact .inr (.inr ⟨h, h2⟩)
      · simp only [Bool.false_eq_true, if_false, if_neg hne, List.mem_cons, List.not_mem_nil, or_false, Bool.not_false]
        constructor
        · rintro (rfl | rfl | ⟨_, h⟩ | ⟨h, h2⟩)
          · exact .inl ⟨rfl, by trivial⟩
          · exact .inr ⟨.inl rfl, hne⟩
          · cases h
          · exact .inr ⟨.inr h, h2⟩
        · rintro (⟨rfl, _⟩ | ⟨rfl | h, h2⟩)
          · exact .inl rfl
          · exact .inr (.inl rfl)
          · exact .inr (.inr (.inr ⟨h, h2⟩))
theorem asc_putA {x : InstD} : ∀ {r : List InstD}, AscI r → AscI (putA x r false)
  | [], _ => by simp [putA, AscI]
  | y :: r, h => by
    obtain ⟨h1, h2⟩ := ascI_cons.1 h
    rw [putA]
    simp only [Bool.false_or]
    cases hl : idLt y.id x.id with
    | true =>
      have hne : ¬ y.id = x.id := fun e => by rw [e, idLt_irrefl] at hl; cases hl
      simp only [if_pos, if_neg hne, List.nil_append, List.cons_append, Bool.not_true]
      refine ascI_cons.2 ⟨fun z hz => ?_, asc_putA h2⟩
      rcases mem_putA.1 hz with ⟨rfl, _⟩ | ⟨hz, _⟩
      · exact hl
      · exact h1 z hz
    | false =>
      simp only [Bool.false_eq_true, if_false, Bool.not_false, putA_true, List.cons_append, List.nil_append]
      have hf : AscI (r.filter fun y => !decide (y.id = x.id)) := List.Pairwise.sublist List.filter_sublist h2
      by_cases hne : y.id = x.id
      · rw [if_pos hne, List.nil_append]
        exact ascI_cons.2 ⟨fun z hz => by rw [← hne]; exact h1 z ((List.mem_filter.1 hz).1), hf⟩
      · rw [if_neg hne]
        have hxy : idLt x.id y.id = true := by
          cases hh : idLt x.id y.id with
          | true => rfl
          | false => exact absurd (idLt_eq hl hh) hne
        refine ascI_cons.2 ⟨fun z hz => ?_, ascI_cons.2 ⟨fun z hz => h1 z ((List.mem_filter.1 hz).1), hf⟩⟩
        rcases List.mem_cons.1 hz with rfl | hz
        · exact hxy
        · exact idLt_trans hxy (h1 z ((List.mem_filter.1 hz).1))
/-- what the program sorts: the instance in its place, or behind -/
theorem put_sorted {l o ys : List InstD} {x : InstD} (hl : AscI l) (ho : (∃ (k : Nat) (hk : k < l.length), l[k].id = x.id ∧ o = l.set k x) ∨ ((∀ y ∈ l, ¬ y.id = x.id) ∧ o = l ++ [x])) (hp : ys.Perm o) (hs : ys.Pairwise fun a b => idLt b.id a.id = false) : ys = fPut l x := by
  have hmem : ∀ z, z ∈ o ↔ z = x ∨ (z ∈ l ∧ ¬ z.id = x.id) := by
    rcases ho with ⟨k, hk, he, rfl⟩ | ⟨hn, rfl⟩
    · intro z
      rw [List.mem_iff_getElem]
      constructor
      · rintro ⟨i, hi, rfl⟩
        rw [List.length_set] at hi
        rw [List.getElem_set]
        split
        · exact .inl rfl
        · rename_i hne
          refine .inr ⟨List.getElem_mem _, fun e => ?_⟩
          have hii : idLt (l[i]).id (l[k]).id = false ∧ idLt (l[k]).id (l[i]).id = false := by rw [e, he, idLt_irrefl]; exact ⟨rfl, rfl⟩
          rcases Nat.lt_or_gt_of_ne hne with h | h
          · rw [List.pairwise_iff_getElem.1 hl k i hk hi h] at hii; cases hii.2
          · rw [List.pairwise_iff_getElem.1 hl i k hi hk h] at hii; cases hii.1
      · rintro (rfl | ⟨hz, hne⟩)
        · exact ⟨k, by rw [List.length_set]; exact hk, by simp⟩
        · obtain ⟨i, hi, rfl⟩ := List.getElem_of_mem hz
          refine ⟨i, by rw [List.length_set]; exact hi, ?_⟩
          rw [List.getElem_set, if_neg]
          rintro rfl
          exact hne he
    · intro z
      rw [List.mem_append, List.mem_singleton]
      constructor
      · rintro (h | h)
        · exact .inr ⟨h, hn z h⟩
        · exact .inl h
      · rintro (h | h)
        · exact .inr h
        · exact .inl h.1
  have hnd : o.Pairwise fun a b => ¬ a.id = b.id := by
    have hl' : l.Pairwise fun a b => ¬ a.id = b.id := hl.imp fun {a b} hab e => by rw [e, idLt_irrefl] at hab; cases hab
    rcases ho with ⟨k, hk, he, rfl⟩ | ⟨hn, rfl⟩
    · refine List.pairwise_iff_getElem.2 fun i j hi hj hij => ?_
      rw [List.length_set] at hi hj
      rw [List.getElem_set, List.getElem_set]
      have key := List.pairwise_iff_getElem.1 hl'
      split
      · rename_i e
        subst e
        rw [if_neg (by omega), ← he]
        exact key _ _ hi hj hij
      · split
        · rename_i e
          subst e
          rw [← he]
          exact key _ _ hi hj hij
        · exact key _ _ hi hj hij
    · rw [List.pairwise_append]
      exact ⟨hl', by simp, fun a ha b hb => by rw [List.mem_singleton.1 hb]; exact hn a ha⟩
  have hya : AscI ys := by
    have hnd2 : ys.Pairwise fun a b => ¬ a.id = b.id := (List.Perm.pairwise_iff (fun {a b} h e => h e.symm) hp).2 hnd
    refine List.Pairwise.imp (R := fun a b => idLt b.id a.id = false ∧ ¬ a.id = b.id) (fun {a b} h => ?_) (hs.and hnd2)
    cases hh : idLt a.id b.id with
    | true => rfl
    | false => exact absurd (idLt_eq hh h.1) h.2
  refine ascI_ext hya (asc_putA hl) fun z => ?_
  rw [hp.mem_iff, hmem, fPut, mem_putA]
  simp
theorem put_ok {l : List InstD} {x : InstD} (hl : instsOkB l = true) : instsOkB (fPut l x) = instOkB x := by
  cases h : instOkB x with
  | true =>
    refine insts_of (asc_putA (insts_asc hl)) fun z hz => ?_
    rcases mem_putA.1 hz with ⟨rfl, _⟩ | ⟨hz, _⟩
    · exact h
    · exact insts_ok hl z hz
  | false =>
    cases hh : instsOkB (fPut l x) with
    | false => rfl
    | true =>
      have := insts_ok hh x (mem_putA.2 (.inl ⟨rfl, rfl⟩))
      rw [h] at this; cases this
noncomputable def fInstPut (l : List InstD) (x : InstD) : List InstD := if instsOkB l = true then (if instOkB x = true then fPut l x else l) else []
/-- the loop's steps -/
theorem putA_len (x : InstD) : ∀ (r : List InstD) (p : Bool), (putA x r p).length ≤ r.length + 1
  | [], p => by cases p <;> simp [putA]
  | y :: r, p => by
    have ih := putA_len x r (p || !idLt y.id x.id)
    rw [putA]
    cases hp : p || idLt y.id x.id with
    | true =>
      simp only [if_pos, List.nil_append, List.length_append, List.length_cons]
      split <;> simp <;> omega
    | false =>
      have h2 : p = false ∧ idLt y.id x.id = false := by simpa using hp
      rw [h2.1, h2.2] at ih ⊢
      simp only [Bool.false_or, Bool.not_false, putA_true, Bool.false_eq_true, if_false, List.length_append, List.length_cons, List.length_nil] at ih ⊢
      have hf := List.length_filter_le (fun y => !decide (y.id = x.id)) r
      split <;> simp <;> omega
theorem cat_wt_filter (p : InstD → Bool) : ∀ r : List InstD, (cat InstD.c (r.filter p)).wt ≤ (cat InstD.c r).wt
  | [] => Nat.le_refl _
  | y :: r => by
    have ih := cat_wt_filter p r
    rw [List.filter_cons]
    split
    · rw [cat_cons, cat_cons, Cs.wt_app, Cs.wt_app]; omega
    · rw [cat_cons, Cs.wt_app]; omega
theorem putA_wt (x : InstD) : ∀ (r : List InstD), (cat InstD.c (putA x r false)).wt ≤ (cat InstD.c r).wt + x.c.wt
  | [] => by simp [putA, cat_one]
  | y :: r => by
    have ih := putA_wt x r
    rw [putA]
    simp only [Bool.false_or]
    have hc : (cat InstD.c (y :: r)).wt = y.c.wt + (cat InstD.c r).wt := by rw [cat_cons, Cs.wt_app]
    have h1 : (cat InstD.c (if y.id = x.id then [] else [y])).wt ≤ y.c.wt := by
      split
      · exact Nat.zero_le _
      · rw [cat_one]; exact Nat.le_refl _
    cases hl : idLt y.id x.id with
    | true =>
      simp only [if_pos, List.nil_append, Bool.not_true, cat_app, Cs.wt_app]
      omega
    | false =>
      simp only [Bool.false_eq_true, if_false, Bool.not_false, putA_true, cat_app, Cs.wt_app, cat_one]
      have := cat_wt_filter (fun y => !decide (y.id = x.id)) r
      omega

end Go.Proofs.Ytoffelfcmfpooaa
namespace Go.Proofs.Ytoffelfcmfpooaa
open Go.RowKit

theorem fill_get : ∀ (L : List Value) (k : Nat) (acc : Array Value) (i : Nat), ((L.zipIdx k).foldl (fun (a : Array Value) (p : Value × Nat) => a.setIfInBounds (0 + p.2) p.1) acc)[i]? = if k ≤ i ∧ i < k + L.length ∧ i < acc.size then L[i - k]? else acc[i]?
  | [], k, acc, i => by
    rw [if_neg (by rintro ⟨h1, h2, _⟩; simp at h2; omega)]
    rfl
  | x :: L, k, acc, i => by
    rw [List.zipIdx_cons, List.foldl_cons, fill_get L (k + 1) _ i, Array.size_setIfInBounds, Array.getElem?_setIfInBounds, List.length_cons]
    by_cases h0 : i = k
    · subst h0
      rw [if_neg (by omega), if_pos (by omega)]
      by_cases h1 : i < acc.size
      · rw [if_pos (by omega), if_pos (by omega)]; simp
      · rw [if_neg (by omega), if_neg (by omega)]; simp; omega
    · by_cases h1 : k + 1 ≤ i ∧ i < k + 1 + L.length ∧ i < acc.size
      · rw [if_pos h1, if_pos (by omega), show i - k = (i - (k + 1)) + 1 by omega, List.getElem?_cons_succ]
      · rw [if_neg h1, if_neg (by omega), if_neg (by omega)]
theorem fill_over (cur : Array Value) (cs : List Value) (n : Nat) (h1 : cs.length = n) (h2 : cur.size = n) : Instr.fill (fun i => some (i * n, n)) cur [(0, .agg cs.toArray)] = some cs.toArray := by
  have hc : (Value.agg cs.toArray).cells = cs.toArray := rfl
  simp only [Instr.fill, hc, Nat.zero_mul, List.size_toArray]
  rw [if_neg (by rw [h1]; simp; omega)]
  congr 1
  apply Array.ext_getElem?
  intro i
  rw [← Array.foldl_toList, Array.toList_zipIdx]
  rw [fill_get cs 0 cur i]
  split
  · simp
  · rw [Array.getElem?_eq_none (by omega)]; simp; omega
set_option maxRecDepth 100000 in
theorem wpList_build1 {ops : Array Oper} {rest : List Oper} {o : Oper} {a : Act} {w : World} {Q : Exit → Act → World → Prop} (hg : o.guard = none) (x : Operand) (ho : o.op = .buildSlice 33 1 #[(0, x)]) (cs : List Value) (hl : cs.length = 16) (hx : a.eval x = .agg cs.toArray)
    (h : wpList Try.prog ops Q rest (a.put o.dst (.slice (some ⟨w.heap.size, 0, none⟩) 1 1)) (w.alloc (.cells cs.toArray 40))) : wpList Try.prog ops Q (o :: rest) a w := by
  obtain ⟨ie, hie⟩ : ∃ ie, Try.prog.info? 40 = some ie := by
    have := E_Inst.hi
    cases hh : Try.prog.info? 40 with
    | none => rw [hh] at this; cases this
    | some ie => exact ⟨ie, rfl⟩
  have hi := E_Inst.hi
  rw [hie] at hi
  simp only [Option.map_some, Option.some.injEq, Prod.mk.injEq] at hi
  obtain ⟨hz, hs, _⟩ := hi
  refine wpList_buildSlice hg 33 40 1 _ ho cs.toArray ie _ E_Inst.ht hie hz (by rw [hs]; decide) (by rw [hs]; decide) ?_ h
  rw [hs]
  have e : (Array.map (fun (x : Nat × Operand) => (x.1, a.eval x.2)) #[(0, x)]).toList = [(0, .agg cs.toArray)] := by
    simp [hx]
  show Instr.fill _ _ (Array.map (fun (x : Nat × Operand) => (x.1, a.eval x.2)) #[(0, x)]).toList = _
  rw [e]
  exact fill_over _ _ 16 hl (by simp)
theorem row_app {w w' : World} {base e sz n : Nat} {α : Type} {f : α → Cs} {xs : List α} {x : α} {v v' : Value} {cells cs : List Value} {F F' : List Nat} (hn : n = xs.length) (hf : ∀ x, (f x).width = sz)
    (ho : Own w base (cat f xs) cells F) (hnd : (v.ownBlock.toList ++ F).Nodup) (hx : Own w base (f x) cs F') (hnd' : F'.Nodup) (hdis : ∀ b ∈ F', b ∉ v.ownBlock.toList ++ F)
    (h' : w'.ownsRow base e sz v' (n + 1) (cells ++ cs)) (hg : w.grownBy w' v.ownBlock) (hat : v'.ownBlock = v.ownBlock ∨ v'.ownBlock = some w.heap.size) :
    Mine w' base (.sl e sz (n + 1) (cat f (xs ++ [x])) .nil) [v'] := by
  have hv : ∀ b ∈ F, v.ownBlock ≠ some b := fun b hb e => by
    rw [e] at hnd
    simp at hnd
    exact hnd.1 hb
  have hv' : ∀ b ∈ F', v.ownBlock ≠ some b := fun b hb e => hdis b hb (by simp [e])
  have hFF : (F ++ F').Nodup := List.nodup_append.2 ⟨(List.nodup_append.1 hnd).2.1, hnd', fun a ha b hb e => hdis b hb (by rw [← e]; exact List.mem_append_right _ ha)⟩
  refine ⟨v'.ownBlock.toList ++ (F ++ F'), ?_, Own.sl1.2 ⟨cells ++ cs, F ++ F', rfl, ?_, h', ?_⟩⟩
  · rcases hat with e | e
    · rw [e]
      refine List.nodup_append.2 ⟨by cases v.ownBlock <;> simp, hFF, fun a ha b hb e2 => ?_⟩
      subst e2
      have ha' : v.ownBlock = some a := by simpa using ha
      rcases List.mem_append.1 hb with h | h
      · exact hv a h ha'
      · exact hv' a h ha'
    · rw [e]
      refine List.nodup_append.2 ⟨by simp, hFF, fun a ha b hb e2 => ?_⟩
      subst e2
      have ha' : a = w.heap.size := by simpa using ha
      subst ha'
      rcases List.mem_append.1 hb with h | h
      · exact Nat.lt_irrefl _ (ho.in _ h).2
      · exact Nat.lt_irrefl _ (hx.in _ h).2
  · rw [cat_width hf, List.length_append, hn]; rfl
  · rw [cat_app, cat_one]
    exact Own.app.2 ⟨_, _, _, _, rfl, rfl, ho.keep (fun b hb => hg.block b (ho.in b hb).2 (fun e => hv b hb e.symm)), hx.keep (fun b hb => hg.block b (hx.in b hb).2 (fun e => hv' b hb e.symm))⟩
theorem mine_open {w : World} {base e sz n : Nat} {i : Cs} {v : Value} (h : Mine w base (.sl e sz n i .nil) [v]) : ∃ cells F, w.ownsRow base e sz v n cells ∧ Own w base i cells F ∧ (v.ownBlock.toList ++ F).Nodup ∧ i.width = n * sz := by
  obtain ⟨F0, nd, o⟩ := h
  obtain ⟨cells, F, rfl, hw, hr, hi⟩ := Own.sl1.1 o
  exact ⟨cells, F, hr, hi, nd, hw⟩
theorem mine_open_lt {w : World} {base e sz n : Nat} {i : Cs} {v : Value} {cells : List Value} {F : List Nat} (h1 : w.ownsRow base e sz v n cells) (h2 : Own w base i cells F) : ∀ b ∈ v.ownBlock.toList ++ F, b < w.heap.size := fun b hb => by
  rcases List.mem_append.1 hb with h | h
  · exact (h1.lt b (by simpa using h)).2
  · exact (h2.in b h).2
theorem mine_row0 (w : World) {base e sz : Nat} : Mine w base (.sl e sz 0 .nil .nil) [.slice none 0 0] := ⟨[], List.nodup_nil, Own.sl1.2 ⟨[], [], rfl, by simp [Cs.width], ⟨by simp, .inl ⟨rfl, rfl⟩⟩, Own.nil.2 ⟨rfl, rfl⟩⟩⟩
theorem mine_row1 {w : World} {base e sz c g : Nat} (h : w.ownsRow base e sz (.slice (some ⟨g, 0, none⟩) 0 c) 0 []) : Mine w base (.sl e sz 0 .nil .nil) [.slice (some ⟨g, 0, none⟩) 0 c] := ⟨[g], by simp, Own.sl1.2 ⟨[], [], rfl, by simp [Cs.width], h, Own.nil.2 ⟨rfl, rfl⟩⟩⟩

set_option maxRecDepth 100000 in
set_option maxHeartbeats 4000000 in
theorem copyInsts_any (xs : List InstD) (A : Option Addr) (n c : Nat) (w : World) (hn : n = xs.length) (hn1 : n ≤ 2097152) (hwt : ∀ y ∈ xs, (y.c).wt ≤ 1048576) (h : Rep anyB w (.sl 40 16 n (cat InstD.c xs) .nil) [.slice A n c]) :
    Calls Try.prog 37 #[.slice A n c] w fun e w' => ∃ A' c', e = .returned (.slice A' n c') ∧ Mine w' w.heap.size (.sl 40 16 n (cat InstD.c xs) .nil) [.slice A' n c'] ∧ Below w.heap.size w w' := by
  have HR := Lib.hid h; clear h
  have HN := Lib.hid hn; clear hn
  have HWT := Lib.hid hwt; clear hwt
  go_enter Try.func37, Try.ntmps37
  go_wp2
  go_loopw [3, 8] (fun oo ii wr => ∃ (j : Nat) (A' : Option Addr) (c' : Nat), j ≤ n ∧ ii = .int .i64 (j : Int) ∧ oo = .slice A' j c' ∧ Mine wr w.heap.size (.sl 40 16 j (cat InstD.c (xs.take j)) .nil) [.slice A' j c'] ∧ Below w.heap.size w wr) (fun _ ii _ => n - (intOf ii).toNat)
  case atStart => exact ⟨0, none, 0, Nat.zero_le _, rfl, rfl, mine_row0 _, Below.refl _ _⟩
  case round =>
    obtain ⟨j, A', c', hj, rfl, rfl, hm, hbel⟩ := hrel
    have L0 := Lib.hid hm; clear hm
    have L5 := Lib.hid hbel; clear hbel
    by_cases hlt : j < n
    · have hjx : j < xs.length := by have := HN.out; omega
      obtain ⟨ad, ci, rfl, _, _, hrc, hl, hc⟩ := (HR.out.below L5.out).elem InstD.width j hjx HN.out
      have hst : xs.take (j + 1) = xs.take j ++ [xs[j]] := List.take_succ_eq_append_getElem hjx
      have hsl := HWT.out _ (List.getElem_mem hjx)
      have hjl : j = (xs.take j).length := by rw [List.length_take, Nat.min_eq_left (Nat.le_of_lt hjx)]
      generalize xs[j] = x at *
      have HJL := Lib.hid hjl; clear hjl
      have HL := Lib.hid hl; clear hl
      have HC := Lib.hid hc; clear hc
      have HRC := Lib.hid hrc; clear hrc
      have HST := Lib.hid hst; clear hst
      have HSL := Lib.hid hsl; clear hsl
      obtain ⟨cells, F, hr0, ho0, hnd0, _⟩ := mine_open L0.out
      have R0 := Lib.hid hr0
      have O0 := Lib.hid ho0
      have N0 := Lib.hid hnd0
      have LT0 := Lib.hid (mine_open_lt hr0 ho0); clear hr0 ho0 hnd0
      go_wp2_with (first
        | ((with_reducible show wpList _ _ _ ({ dst := _, op := Op.store 40 _ _, type := _, pos := _, after := _, guard := _ } :: _) _ _); go_must (refine wpList_store_row _ wr.heap.size 40 0 ci [] [.int .i64 0, .int .i64 0, .int .i64 0, .int .i64 0, .int .i64 0, .int .i64 0, .int .i64 0, .int .i64 0, .string ⟨#[]⟩, .string ⟨#[]⟩, .string ⟨#[]⟩, .int .i64 0, .slice none 0 0, .int .i64 0, .slice none 0 0, .bool false] [] _ rfl rfl (HL.out ▸ agg_Inst) (blk_new wr _ _) rfl rfl HL.out.symm HRC.out.one ?_; intro v1 h4 g4; have C1 := Lib.hid (show Blk v1 wr.heap.size 40 ci.toArray by simpa using h4); have D1 := Lib.hid (show Below wr.heap.size wr v1 from Below.grown ((Below.refl _ _).alloc (Nat.le_refl _) _) g4 (by simp) (fun k hk => by injection hk with hk; omega)); clear h4 g4))
        | ((with_reducible show wpList _ _ _ ({ dst := _, op := Op.load 40 _, type := _, pos := _, after := _, guard := _ } :: _) _ _); first | refine wpList_load_row _ ⟨wr.heap.size, 0, none⟩ rfl ci agg_Inst HL.out (blk_cells C1.out) ?_ | refine wpList_load_row _ (ad.add (j * 16)) rfl ci agg_Inst HL.out HC.out ?_)
        | fail)
      refine (copyInst_any x ci _ HSL.out (HRC.out.below D1.out)).mono ?_; rintro e v2 ⟨cs', rfl, ⟨F', n', o'⟩, hb⟩
      have HL2 := Lib.hid (show cs'.length = 16 from o'.length.trans (InstD.width _))
      have N1 := Lib.hid n'; clear n'
      have O1 := Lib.hid o'; clear o'
      have BB := Lib.hid (D1.out.trans (hb.mono D1.out.size))
      have D1S := Lib.hid (Nat.le_trans L5.out.size D1.out.size)
      have D1T := Lib.hid D1.out.size
      clear hb D1 C1
      go_wp2_with (first
        | ((with_reducible show wpList _ _ _ ({ dst := _, op := Op.buildSlice _ _ _, type := _, pos := _, after := _, guard := _ } :: _) _ _); go_must (refine wpList_build1 rfl (.tmp 14) rfl cs' HL2.out rfl ?_))
        | (at_builtin; go_must (refine wpList_app E_Inst _ rfl (.tmp 12) (.tmp 15) rfl w.heap.size _ j cells rfl ((R0.out.keptBelowJ BB.out).alloc _) _ _ _ _ rfl (Reads.new (e := 40) (by simp [HL2.out])) O1.out.one (by omega) (by have h1 := L5.out.size; have h2 := BB.out.size; simp; omega) ?_; intro v' w5 hown5 hg5 hat5; have W5 := Lib.hid hown5; have G5 := Lib.hid hg5; have T5 := Lib.hid hat5; clear hown5 hg5 hat5))
        | fail)
      obtain ⟨Av, kv, rfl, _⟩ := SlR.of_own W5.out
      refine ⟨⟨j + 1, Av, kv, by omega, by go_num, rfl, ?_, ?_⟩, by simp only [intOf]; omega⟩
      · rw [HST.out]
        refine row_app HJL.out InstD.width ((O0.out.below BB.out).below ((Below.refl _ _).alloc (Nat.le_refl _) _)) N0.out ((O1.out.mono D1S.out).below ((Below.refl _ _).alloc (Nat.le_refl _) _)) N1.out (fun b hb hm => ?_) W5.out G5.out T5.out
        have h1 := LT0.out b hm
        have h2 := (O1.out.in b hb).1
        have h3 := D1T.out
        omega
      · exact Below.grown ((L5.out.trans (BB.out.mono L5.out.size)).alloc (Nat.le_trans L5.out.size BB.out.size) _) G5.out (by have h1 := L5.out.size; have h2 := BB.out.size; simp; omega) (fun k hk => ((R0.out.lt k hk).1))
    · have hjn : j = n := by omega
      subst hjn
      have hall : xs.take j = xs := List.take_of_length_le (by have := HN.out; omega)
      have h0 := L0.out
      rw [hall] at h0
      have H0 := Lib.hid h0; clear h0 hall
      go_wp2
      go_ret
      exact ⟨_, _, rfl, H0.out, L5.out⟩

set_option maxRecDepth 100000 in
set_option maxHeartbeats 4000000 in
theorem l8CopyAll_any (xs : List InstD) (A : Option Addr) (n c : Nat) (w : World) (hn : n = xs.length) (hn1 : n ≤ 2097152) (hwt : ∀ y ∈ xs, (y.c).wt ≤ 1048576) (h : Rep anyB w (.sl 40 16 n (cat InstD.c xs) .nil) [.slice A n c]) :
    Calls Try.prog 31 #[.slice A n c] w fun e w' => ∃ A' c', e = .returned (.slice A' n c') ∧ Mine w' w.heap.size (.sl 40 16 n (cat InstD.c xs) .nil) [.slice A' n c'] ∧ Below w.heap.size w w' := by
  have HR := Lib.hid h; clear h
  have HN := Lib.hid hn; clear hn
  have HWT := Lib.hid hwt; clear hwt
  go_enter Try.func31, Try.ntmps31
  go_wp2
  go_loopw [3, 4] (fun oo ii wr => ∃ (j : Nat) (A' : Option Addr) (c' : Nat), j ≤ n ∧ ii = .int .i64 (j : Int) ∧ oo = .slice A' j c' ∧ Mine wr w.heap.size (.sl 40 16 j (cat InstD.c (xs.take j)) .nil) [.slice A' j c'] ∧ Below w.heap.size w wr) (fun _ ii _ => n - (intOf ii).toNat)
  case atStart => exact ⟨0, some ⟨w.heap.size, 0, none⟩, 0, Nat.zero_le _, rfl, rfl, mine_row1 (World.ownsRow_made w #[] 0 (Nat.le_refl _) (by simp [maxLen]) rfl), (by repeat' (first | with_reducible exact Below.refl _ _ | with_reducible exact BW.out | with_reducible refine Below.setCell ?_ ?_ _ | with_reducible refine Below.alloc ?_ ?_ _ | with_reducible refine Below.drew ?_ | (simp; done) | (simp; omega) | omega))⟩
  case round =>
    obtain ⟨j, A', c', hj, rfl, rfl, hm, hbel⟩ := hrel
    have L0 := Lib.hid hm; clear hm
    have L5 := Lib.hid hbel; clear hbel
    by_cases hlt : j < n
    · have hjx : j < xs.length := by have := HN.out; omega
      obtain ⟨ad, ci, rfl, _, _, hrc, hl, hc⟩ := (HR.out.below L5.out).elem InstD.width j hjx HN.out
      have hst : xs.take (j + 1) = xs.take j ++ [xs[j]] := List.take_succ_eq_append_getElem hjx
      have hsl := HWT.out _ (List.getElem_mem hjx)
      have hjl : j = (xs.take j).length := by rw [List.length_take, Nat.min_eq_left (Nat.le_of_lt hjx)]
      generalize xs[j] = x at *
      have HJL := Lib.hid hjl; clear hjl
      have HL := Lib.hid hl; clear hl
      have HC := Lib.hid hc; clear hc
      have HRC := Lib.hid hrc; clear hrc
      have HST := Lib.hid hst; clear hst
      have HSL := Lib.hid hsl; clear hsl
      obtain ⟨cells, F, hr0, ho0, hnd0, _⟩ := mine_open L0.out
      have R0 := Lib.hid hr0
      have O0 := Lib.hid ho0
      have N0 := Lib.hid hnd0
      have LT0 := Lib.hid (mine_open_lt hr0 ho0); clear hr0 ho0 hnd0
      go_wp2_with (first
        | ((with_reducible show wpList _ _ _ ({ dst := _, op := Op.load 40 _, type := _, pos := _, after := _, guard := _ } :: _) _ _); refine wpList_load_row _ (ad.add (j * 16)) rfl ci agg_Inst HL.out HC.out ?_)
        | fail)
      refine (l8Copy_any x ci _ HSL.out HRC.out).mono ?_; rintro e v2 ⟨cs', rfl, ⟨F', n', o'⟩, hb⟩
      have HL2 := Lib.hid (show cs'.length = 16 from o'.length.trans (InstD.width _))
      have N1 := Lib.hid n'; clear n'
      have O1 := Lib.hid o'; clear o'
      have BB := Lib.hid hb; clear hb
      go_wp2_with (first
        | ((with_reducible show wpList _ _ _ ({ dst := _, op := Op.buildSlice _ _ _, type := _, pos := _, after := _, guard := _ } :: _) _ _); go_must (refine wpList_build1 rfl (.tmp 17) rfl cs' HL2.out rfl ?_))
        | (at_builtin; go_must (refine wpList_app E_Inst _ rfl (.tmp 12) (.tmp 18) rfl w.heap.size _ j cells rfl ((R0.out.keptBelowJ BB.out).alloc _) _ _ _ _ rfl (Reads.new (e := 40) (by simp [HL2.out])) O1.out.one (by omega) (by have h1 := L5.out.size; have h2 := BB.out.size; simp; omega) ?_; intro v' w5 hown5 hg5 hat5; have W5 := Lib.hid hown5; have G5 := Lib.hid hg5; have T5 := Lib.hid hat5; clear hown5 hg5 hat5))
        | fail)
      obtain ⟨Av, kv, rfl, _⟩ := SlR.of_own W5.out
      refine ⟨⟨j + 1, Av, kv, by omega, by go_num, rfl, ?_, ?_⟩, by simp only [intOf]; omega⟩
      · rw [HST.out]
        refine row_app HJL.out InstD.width ((O0.out.below BB.out).below ((Below.refl _ _).alloc (Nat.le_refl _) _)) N0.out ((O1.out.mono L5.out.size).below ((Below.refl _ _).alloc (Nat.le_refl _) _)) N1.out (fun b hb hm => ?_) W5.out G5.out T5.out
        have h1 := LT0.out b hm
        have h2 := (O1.out.in b hb).1
        omega
      · exact Below.grown ((L5.out.trans (BB.out.mono L5.out.size)).alloc (Nat.le_trans L5.out.size BB.out.size) _) G5.out (by have h1 := L5.out.size; have h2 := BB.out.size; simp; omega) (fun k hk => ((R0.out.lt k hk).1))
    · have hjn : j = n := by omega
      subst hjn
      have hall : xs.take j = xs := List.take_of_length_le (by have := HN.out; omega)
      have h0 := L0.out
      rw [hall] at h0
      have H0 := Lib.hid h0; clear h0 hall
      go_wp2
      go_ret
      exact ⟨_, _, rfl, H0.out, L5.out⟩

end Go.Proofs.Ytoffelfcmfpooaa
namespace Go.Proofs.Ytoffelfcmfpooaa
open Go.RowKit

theorem own_repI {w : World} {base e sz n c : Nat} {A : Option Addr} {i : Cs} {cells : List Value} (h : w.ownsRow base e sz (.slice A n c) n cells) (hw : i.width = n * sz) (hi : Rep anyB w i cells) : Rep anyB w (.sl e sz n i .nil) [.slice A n c] := by
  simp only [Rep]
  refine ⟨A, c, cells, [], rfl, hw, fun h0 => ?_, hi, rfl⟩
  rcases h.2 with ⟨_, h1⟩ | ⟨g, cap, cur, hv, hb, hh, _⟩
  · exact absurd h1 h0
  · injection hv with e1 _ e3
    subst e1
    exact ⟨⟨g, 0, none⟩, rfl, trivial, (Array.getElem?_eq_some_iff.1 hh).1, fun j u hu => h.cells rfl j u hu⟩
theorem id_shut (x : IdD) (w : World) : Rep anyB w x.c [.int .i64 x.rep, .int .i64 x.slot] := Rep.int.2 ⟨_, rfl, Rep.int.2 ⟨_, rfl, Rep.nil.2 rfl⟩⟩
theorem put_wt {xs : List InstD} {x : InstD} (h : ∀ y ∈ xs, (y.c).wt ≤ 1048576) (hx : x.c.wt ≤ 1048576) : ∀ y ∈ fPut xs x, (y.c).wt ≤ 1048576 := fun y hy => by
  rcases mem_putA.1 hy with ⟨rfl, _⟩ | ⟨hy, _⟩
  · exact hx
  · exact h y hy
theorem bInstPut (xs : List InstD) (x : InstD) (h : xs.length + (cat InstD.c xs).wt ≤ 1048576) (hx : x.c.wt ≤ 1048576) :
    (fInstPut xs x).length + (cat InstD.c (fInstPut xs x)).wt ≤ 4611686018427387 ∧ cts InstD.cnt (fInstPut xs x) ≤ 4611686018427387 := by
  have key : (fInstPut xs x).length ≤ xs.length + 1 ∧ (cat InstD.c (fInstPut xs x)).wt ≤ (cat InstD.c xs).wt + x.c.wt := by
    unfold fInstPut
    split
    · split
      · exact ⟨putA_len x xs false, putA_wt x xs⟩
      · exact ⟨by omega, by omega⟩
    · exact ⟨Nat.zero_le _, Nat.zero_le _⟩
  have := InstD.cts_le (fInstPut xs x)
  omega


set_option maxRecDepth 100000 in
set_option maxHeartbeats 8000000 in
theorem l8Put_any (xs : List InstD) (x : InstD) (A : Option Addr) (n c : Nat) (cs : List Value) (w : World) (hn : n = xs.length) (hn1 : n ≤ 1048576) (h : Rep anyB w (.sl 40 16 n (cat InstD.c xs) .nil) [.slice A n c]) (h' : Rep anyB w x.c cs) :
    Calls Try.prog 32 #[.slice A n c, .agg cs.toArray] w fun e w' => ∃ A2 m c2, e = .returned (.slice A2 m c2) ∧ m = (fPut xs x).length ∧ Rep anyB w' (.sl 40 16 m (cat InstD.c (fPut xs x)) .nil) [.slice A2 m c2] ∧ Below w.heap.size w w' := by
  have HL := Lib.hid (show cs.length = 16 from h'.length.trans (InstD.width x))
  have HX1 := Lib.hid h'.one
  have HXR := Lib.hid h'.lt
  have hxid := fun (v : World) (hb : Blk v w.heap.size 40 cs.toArray) => id_cells h' (blk_cells hb)
  have HXI := Lib.hid hxid; clear hxid h'
  have HR := Lib.hid h; clear h
  have HN := Lib.hid hn; clear hn
  have hR : fPut xs x = putA x xs false := rfl
  generalize fPut xs x = R at *
  have HRR := Lib.hid hR; clear hR
  obtain ⟨xr, xs', hxe⟩ : ∃ xr xs', x.id = ⟨xr, xs'⟩ := ⟨x.id.rep, x.id.slot, rfl⟩
  rw [hxe] at HXI
  have HXE := Lib.hid hxe; clear hxe
  go_enter Try.func32, Try.ntmps32
  go_wp2
  go_loopw [5, 6, 7] (fun oo pp ii wr => ∃ (j q : Nat) (p : Bool) (A' : Option Addr) (c' : Nat) (cells : List Value) (acc : List InstD), j ≤ n ∧ oo = .slice A' q c' ∧ pp = .bool p ∧ ii = .int .i64 (j : Int) ∧ q = acc.length ∧ q ≤ 2 * j ∧ acc ++ putA x (xs.drop j) p = R ∧ wr.ownsRow (w.heap.size + 1) 40 16 (.slice A' q c') q cells ∧ Rep (fun b => b < w.heap.size) w (cat InstD.c acc) cells ∧ Blk wr w.heap.size 40 cs.toArray ∧ Below w.heap.size w wr) (fun _ _ ii _ => n - (intOf ii).toNat)
  case atStart => exact ⟨0, 0, false, some ⟨w.heap.size + 1, 0, none⟩, 0, [], [], Nat.zero_le _, by simp, rfl, rfl, rfl, by omega, by rw [HRR.out]; rfl, by have h1 := World.ownsRow_made (base := w.heap.size + 1) (size := 16) (e := 40) (w.alloc (.cells cs.toArray 40)) #[] 0 (by simp) (by simp [maxLen]) rfl; simpa using h1, Rep.nil.2 rfl, (blk_new _ _ _).alloc _, (by repeat' (first | with_reducible exact Below.refl _ _ | with_reducible exact BW.out | with_reducible refine Below.setCell ?_ ?_ _ | with_reducible refine Below.alloc ?_ ?_ _ | with_reducible refine Below.drew ?_ | (simp; done) | (simp; omega) | omega))⟩
  case round =>
    obtain ⟨j, q, p, A', c', cells, acc, hj, rfl, rfl, rfl, hq, hqb, hT, hown, hrep, hbx, hbel⟩ := hrel
    have HQ := Lib.hid hq; clear hq
    have HO := Lib.hid hown; clear hown
    have HA := Lib.hid hrep; clear hrep
    have HBX := Lib.hid hbx; clear hbx
    have BW := Lib.hid hbel; clear hbel
    have HZ := Lib.hid (show w.heap.size + 1 ≤ wr.heap.size from HBX.out.lt)
    by_cases hlt : j < n
    · have hjx : j < xs.length := by have := HN.out; omega
      obtain ⟨ad, ci, rfl, _, hadl, hrc, hl, hc⟩ := HR.out.elem InstD.width j hjx HN.out
      have hdy : xs.drop j = xs[j] :: xs.drop (j + 1) := List.drop_eq_getElem_cons hjx
      rw [hdy, putA] at hT
      clear hdy
      have HRC := Lib.hid hrc.lt
      have H1C := Lib.hid hrc.one
      have hcall := fun (v : World) (hb : Below w.heap.size w v) f u (hv : ci[f]? = some u) => show v.cell? ((ad.add (j * 16)).add f) = some u from (hb.cell (by rw [block_of_add, block_of_add]; exact hadl)).trans (hc f u hv)
      have hyid := fun (v : World) (hb : Below w.heap.size w v) => id_cells hrc (hcall v hb)
      generalize xs[j] = y at *
      obtain ⟨yr, ys, hye⟩ : ∃ yr ys, y.id = ⟨yr, ys⟩ := ⟨y.id.rep, y.id.slot, rfl⟩
      rw [hye, HXE.out] at hT
      rw [hye] at hyid
      have HCL := Lib.hid hl; clear hl
      have HC := Lib.hid hcall; clear hcall hc
      have HYI := Lib.hid hyid; clear hyid
      clear hrc hye
      have HT := Lib.hid hT; clear hT
      cases p with
      | true =>
        have X := Lib.hid HT.out; clear HT
        have HT := Lib.hid (show acc ++ ([] ++ ((if (⟨yr, ys⟩ : IdD) = ⟨xr, xs'⟩ then [] else [y]) ++ putA x (xs.drop (j + 1)) true)) = R from X.out); clear X
        go_wp2
        refine wp_region_x 13 [0, 1, 2, 3, 4, 5, 6, 7, 8, 9, 10, 11, 12] (by kernel_rfl) (by kernel_rfl) ?_
        have X := Lib.hid HBX.out.drew; clear HBX
        have HBX := Lib.hid X.out; clear X
        have X := Lib.hid BW.out.drew; clear BW
        have BW := Lib.hid X.out; clear X
        iterate 3 (refine wpX_quiet rfl (by kernel_rfl) rfl ?_; go_wp2; refine ⟨rfl, ?_⟩)
        (iterate 6 (refine wpX_skip2 rfl rfl (by kernel_rfl) ?_)); simp only [List.setIfInBounds_toArray, List.set_cons_succ, List.set_cons_zero]; (iterate 3 (refine wpX_skip2 rfl rfl (by kernel_rfl) ?_)); simp only [List.setIfInBounds_toArray, List.set_cons_succ, List.set_cons_zero]
        iterate 1 (refine wpX_quiet rfl (by kernel_rfl) rfl ?_; go_wp2; refine ⟨rfl, ?_⟩)
        refine wpX_nil ?_; try simp only [List.drop_succ_cons, List.drop_zero]
        have X := Lib.hid (show World.ownsRow wr.drew (w.heap.size + 1) 40 16 (.slice A' q c') q cells from HO.out); clear HO
        have HO := Lib.hid X.out; clear X
        by_cases e1 : yr = xr
        · subst e1
          by_cases e2 : ys = xs'
          · subst e2
            have hT2 := HT.out
            rw [if_pos rfl] at hT2
            have HT2 := Lib.hid hT2; clear hT2
            go_wp2
            refine wp_region_x 7 [0, 1, 2, 3, 4, 5, 6] (by kernel_rfl) (by kernel_rfl) ?_
            have X := Lib.hid HBX.out.drew; clear HBX
            have HBX := Lib.hid X.out; clear X
            have X := Lib.hid BW.out.drew; clear BW
            have BW := Lib.hid X.out; clear X
            iterate 4 (refine wpX_quiet rfl (by kernel_rfl) rfl ?_; go_wp2; refine ⟨rfl, ?_⟩)
            refine wpX_quiet rfl (by kernel_rfl) rfl ?_; go_wp2_with (first | (refine wpList_load_row_g _ (by first | rfl | kernel_rfl) (ad.add (j * 16)) rfl [.int .i64 _, .int .i64 _] agg_Id rfl (HYI.out _ BW.out) ?_) | fail); refine ⟨rfl, ?_⟩
            iterate 1 (refine wpX_quiet rfl (by kernel_rfl) rfl ?_; go_wp2; refine ⟨rfl, ?_⟩)
            refine wpX_quiet rfl (by kernel_rfl) rfl ?_; go_wp2_with (first | (refine wpList_load_row_g _ (by first | rfl | kernel_rfl) ⟨w.heap.size, 0, none⟩ rfl [.int .i64 _, .int .i64 _] agg_Id rfl (HXI.out _ HBX.out) ?_) | fail); refine ⟨rfl, ?_⟩
            refine wpX_nil ?_; try simp only [List.drop_succ_cons, List.drop_zero]
            go_wp2
            exact ⟨⟨j + 1, _, true, A', c', _, _, by omega, rfl, rfl, by go_num, HQ.out, by omega, by have h0 := HT2.out; simpa [List.append_assoc] using h0, HO.out, HA.out, HBX.out, BW.out⟩, by simp only [intOf]; omega⟩
          · have e3 : (ys == xs') = false := by simpa using e2
            have hne : ¬ (⟨yr, ys⟩ : IdD) = ⟨yr, xs'⟩ := fun h => e2 (by injection h)
            have HNE := Lib.hid hne; clear hne e2
            have hT2 := HT.out
            rw [if_neg HNE.out] at hT2
            have HT2 := Lib.hid hT2; clear hT2
            go_wp2
            refine wp_region_x 7 [0, 1, 2, 3, 4, 5, 6] (by kernel_rfl) (by kernel_rfl) ?_
            have X := Lib.hid HBX.out.drew; clear HBX
            have HBX := Lib.hid X.out; clear X
            have X := Lib.hid BW.out.drew; clear BW
            have BW := Lib.hid X.out; clear X
            iterate 4 (refine wpX_quiet rfl (by kernel_rfl) rfl ?_; go_wp2; refine ⟨rfl, ?_⟩)
            refine wpX_quiet rfl (by kernel_rfl) rfl ?_; go_wp2_with (first | (refine wpList_load_row_g _ (by first | rfl | kernel_rfl) (ad.add (j * 16)) rfl [.int .i64 _, .int .i64 _] agg_Id rfl (HYI.out _ BW.out) ?_) | fail); refine ⟨rfl, ?_⟩
            iterate 1 (refine wpX_quiet rfl (by kernel_rfl) rfl ?_; go_wp2; refine ⟨rfl, ?_⟩)
            refine wpX_quiet rfl (by kernel_rfl) rfl ?_; go_wp2_with (first | (refine wpList_load_row_g _ (by first | rfl | kernel_rfl) ⟨w.heap.size, 0, none⟩ rfl [.int .i64 _, .int .i64 _] agg_Id rfl (HXI.out _ HBX.out) ?_) | fail); refine ⟨rfl, ?_⟩
            refine wpX_nil ?_; try simp only [List.drop_succ_cons, List.drop_zero]
            go_wp2_with (first
              | ((with_reducible show wpList _ _ _ ({ dst := _, op := Op.load 40 _, type := _, pos := _, after := _, guard := _ } :: _) _ _); refine wpList_load_row _ (ad.add (j * 16)) rfl ci agg_Inst HCL.out (HC.out _ BW.out) ?_)
              | ((with_reducible show wpList _ _ _ ({ dst := _, op := Op.buildSlice _ _ _, type := _, pos := _, after := _, guard := _ } :: _) _ _); go_must (refine wpList_build1 rfl (.tmp 44) rfl ci HCL.out rfl ?_))
              | (at_builtin; go_must (refine wpList_app E_Inst _ rfl (.tmp 40) (.tmp 45) rfl (w.heap.size + 1) _ q cells rfl (HO.out.alloc _) _ _ _ _ rfl (Reads.new (e := 40) (by simp [HCL.out])) H1C.out (by omega) (by have h1 := HZ.out; simp; omega) ?_; intro vy w5 hown5 hg5 hat5; have hgb := HO.out.lt; obtain ⟨Avy, kvy, rfl, _⟩ := SlR.of_own hown5; have X := Lib.hid (show Blk w5 w.heap.size 40 cs.toArray from (HBX.out.alloc _).keep (hg5.block _ (HBX.out.alloc _).lt (fun e => by have h7 := (hgb _ e.symm).1; omega))); clear HBX; have HBX := Lib.hid X.out; clear X; have X := Lib.hid (show Below w.heap.size w w5 from Below.grown (BW.out.alloc BW.out.size _) hg5 (Nat.le_trans BW.out.size (by simp)) (fun k' hk => by have h7 := (hgb _ hk).1; omega)); clear BW; have BW := Lib.hid X.out; clear X; have X := Lib.hid (show w.heap.size + 1 ≤ w5.heap.size from HBX.out.lt); clear HZ; have HZ := Lib.hid X.out; clear X; have X := Lib.hid (show Rep (fun b => b < w.heap.size) w (cat InstD.c (acc ++ [y])) (cells ++ ci) from by rw [cat_app, cat_one]; exact Rep.app.2 ⟨_, _, rfl, HA.out, HRC.out⟩); clear HA; have HA := Lib.hid X.out; clear X; clear HO; have HO := Lib.hid hown5; clear hown5 hg5 hat5 hgb))
              | fail)
            exact ⟨⟨j + 1, _, true, Avy, kvy, _, _, by omega, rfl, rfl, by go_num, by have h0 := HQ.out; simp; omega, by omega, by have h0 := HT2.out; simpa [List.append_assoc] using h0, HO.out, HA.out, HBX.out, BW.out⟩, by simp only [intOf]; omega⟩
        · have e3 : (yr == xr) = false := by simpa using e1
          have hne : ¬ (⟨yr, ys⟩ : IdD) = ⟨xr, xs'⟩ := fun h => e1 (by injection h)
          have HNE := Lib.hid hne; clear hne e1
          have hT2 := HT.out
          rw [if_neg HNE.out] at hT2
          have HT2 := Lib.hid hT2; clear hT2
          go_wp2
          refine wp_region_x 7 [0, 1, 2, 3, 4, 5, 6] (by kernel_rfl) (by kernel_rfl) ?_
          have X := Lib.hid HBX.out.drew; clear HBX
          have HBX := Lib.hid X.out; clear X
          have X := Lib.hid BW.out.drew; clear BW
          have BW := Lib.hid X.out; clear X
          iterate 4 (refine wpX_quiet rfl (by kernel_rfl) rfl ?_; go_wp2; refine ⟨rfl, ?_⟩)
          refine wpX_quiet rfl (by kernel_rfl) rfl ?_; go_wp2_with (first | (refine wpList_load_row_g _ (by first | rfl | kernel_rfl) (ad.add (j * 16)) rfl [.int .i64 _, .int .i64 _] agg_Id rfl (HYI.out _ BW.out) ?_) | fail); refine ⟨rfl, ?_⟩
          iterate 1 (refine wpX_quiet rfl (by kernel_rfl) rfl ?_; go_wp2; refine ⟨rfl, ?_⟩)
          refine wpX_quiet rfl (by kernel_rfl) rfl ?_; go_wp2_with (first | (refine wpList_load_row_g _ (by first | rfl | kernel_rfl) ⟨w.heap.size, 0, none⟩ rfl [.int .i64 _, .int .i64 _] agg_Id rfl (HXI.out _ HBX.out) ?_) | fail); refine ⟨rfl, ?_⟩
          refine wpX_nil ?_; try simp only [List.drop_succ_cons, List.drop_zero]
          go_wp2_with (first
            | ((with_reducible show wpList _ _ _ ({ dst := _, op := Op.load 40 _, type := _, pos := _, after := _, guard := _ } :: _) _ _); refine wpList_load_row _ (ad.add (j * 16)) rfl ci agg_Inst HCL.out (HC.out _ BW.out) ?_)
            | ((with_reducible show wpList _ _ _ ({ dst := _, op := Op.buildSlice _ _ _, type := _, pos := _, after := _, guard := _ } :: _) _ _); go_must (refine wpList_build1 rfl (.tmp 44) rfl ci HCL.out rfl ?_))
            | (at_builtin; go_must (refine wpList_app E_Inst _ rfl (.tmp 40) (.tmp 45) rfl (w.heap.size + 1) _ q cells rfl (HO.out.alloc _) _ _ _ _ rfl (Reads.new (e := 40) (by simp [HCL.out])) H1C.out (by omega) (by have h1 := HZ.out; simp; omega) ?_; intro vy w5 hown5 hg5 hat5; have hgb := HO.out.lt; obtain ⟨Avy, kvy, rfl, _⟩ := SlR.of_own hown5; have X := Lib.hid (show Blk w5 w.heap.size 40 cs.toArray from (HBX.out.alloc _).keep (hg5.block _ (HBX.out.alloc _).lt (fun e => by have h7 := (hgb _ e.symm).1; omega))); clear HBX; have HBX := Lib.hid X.out; clear X; have X := Lib.hid (show Below w.heap.size w w5 from Below.grown (BW.out.alloc BW.out.size _) hg5 (Nat.le_trans BW.out.size (by simp)) (fun k' hk => by have h7 := (hgb _ hk).1; omega)); clear BW; have BW := Lib.hid X.out; clear X; have X := Lib.hid (show w.heap.size + 1 ≤ w5.heap.size from HBX.out.lt); clear HZ; have HZ := Lib.hid X.out; clear X; have X := Lib.hid (show Rep (fun b => b < w.heap.size) w (cat InstD.c (acc ++ [y])) (cells ++ ci) from by rw [cat_app, cat_one]; exact Rep.app.2 ⟨_, _, rfl, HA.out, HRC.out⟩); clear HA; have HA := Lib.hid X.out; clear X; clear HO; have HO := Lib.hid hown5; clear hown5 hg5 hat5 hgb))
            | fail)
          exact ⟨⟨j + 1, _, true, Avy, kvy, _, _, by omega, rfl, rfl, by go_num, by have h0 := HQ.out; simp; omega, by omega, by have h0 := HT2.out; simpa [List.append_assoc] using h0, HO.out, HA.out, HBX.out, BW.out⟩, by simp only [intOf]; omega⟩
      | false =>
        cases hlt2 : idLt ⟨yr, ys⟩ ⟨xr, xs'⟩ with
        | true =>
          rw [hlt2] at HT
          have HLT := Lib.hid hlt2
          have X := Lib.hid HT.out; clear HT
          have HT := Lib.hid (show acc ++ ([] ++ ((if (⟨yr, ys⟩ : IdD) = ⟨xr, xs'⟩ then [] else [y]) ++ putA x (xs.drop (j + 1)) false)) = R from X.out); clear X
          go_wp2
          refine wp_region_x 13 [0, 1, 2, 3, 4, 5, 6, 7, 8, 9, 10, 11, 12] (by kernel_rfl) (by kernel_rfl) ?_
          have X := Lib.hid HBX.out.drew; clear HBX
          have HBX := Lib.hid X.out; clear X
          have X := Lib.hid BW.out.drew; clear BW
          have BW := Lib.hid X.out; clear X
          iterate 7 (refine wpX_quiet rfl (by kernel_rfl) rfl ?_; go_wp2; refine ⟨rfl, ?_⟩)
          refine wpX_quiet rfl (by kernel_rfl) rfl ?_; go_wp2_with (first | (refine wpList_load_row_g _ (by first | rfl | kernel_rfl) (ad.add (j * 16)) rfl [.int .i64 _, .int .i64 _] agg_Id rfl (HYI.out _ BW.out) ?_) | fail); refine ⟨rfl, ?_⟩
          iterate 1 (refine wpX_quiet rfl (by kernel_rfl) rfl ?_; go_wp2; refine ⟨rfl, ?_⟩)
          refine wpX_quiet rfl (by kernel_rfl) rfl ?_; go_wp2_with (first | (refine wpList_load_row_g _ (by first | rfl | kernel_rfl) ⟨w.heap.size, 0, none⟩ rfl [.int .i64 _, .int .i64 _] agg_Id rfl (HXI.out _ HBX.out) ?_) | fail); refine ⟨rfl, ?_⟩
          refine wpX_actor rfl (by kernel_rfl) ?_; go_wp2_with fail
          refine (l8Less_any ⟨yr, ys⟩ ⟨xr, xs'⟩ _ _ _ (id_shut _ _) (id_shut _ _)).mono ?_
          rintro e v6 ⟨rfl, hb6⟩
          rw [HLT.out]
          have HB6 := Lib.hid hb6; clear hb6
          have X := Lib.hid (HBX.out.below HB6.out); clear HBX
          have HBX := Lib.hid X.out; clear X
          have X := Lib.hid (BW.out.trans (HB6.out.mono BW.out.size)); clear BW
          have BW := Lib.hid X.out; clear X
          have X := Lib.hid (show World.ownsRow v6 (w.heap.size + 1) 40 16 (.slice A' q c') q cells from World.ownsRow.keptBelowJ (w := wr.drew) HO.out HB6.out); clear HO
          have HO := Lib.hid X.out; clear X
          have X := Lib.hid (show w.heap.size + 1 ≤ v6.heap.size from HBX.out.lt); clear HZ
          have HZ := Lib.hid X.out; clear X
          go_wp2; refine ⟨Ext.of_below HB6.out, ?_⟩
          clear HB6
          iterate 2 (refine wpX_quiet rfl (by kernel_rfl) rfl ?_; go_wp2; refine ⟨rfl, ?_⟩)
          refine wpX_nil ?_; try simp only [List.drop_succ_cons, List.drop_zero]
          by_cases e1 : yr = xr
          · subst e1
            by_cases e2 : ys = xs'
            · subst e2
              rw [idLt_irrefl] at hlt2; cases hlt2
            · have e3 : (ys == xs') = false := by simpa using e2
              have hne : ¬ (⟨yr, ys⟩ : IdD) = ⟨yr, xs'⟩ := fun h => e2 (by injection h)
              have HNE := Lib.hid hne; clear hne e2
              have hT2 := HT.out
              rw [if_neg HNE.out] at hT2
              have HT2 := Lib.hid hT2; clear hT2
              go_wp2
              refine wp_region_x 7 [0, 1, 2, 3, 4, 5, 6] (by kernel_rfl) (by kernel_rfl) ?_
              have X := Lib.hid HBX.out.drew; clear HBX
              have HBX := Lib.hid X.out; clear X
              have X := Lib.hid BW.out.drew; clear BW
              have BW := Lib.hid X.out; clear X
              iterate 4 (refine wpX_quiet rfl (by kernel_rfl) rfl ?_; go_wp2; refine ⟨rfl, ?_⟩)
              refine wpX_quiet rfl (by kernel_rfl) rfl ?_; go_wp2_with (first | (refine wpList_load_row_g _ (by first | rfl | kernel_rfl) (ad.add (j * 16)) rfl [.int .i64 _, .int .i64 _] agg_Id rfl (HYI.out _ BW.out) ?_) | fail); refine ⟨rfl, ?_⟩
              iterate 1 (refine wpX_quiet rfl (by kernel_rfl) rfl ?_; go_wp2; refine ⟨rfl, ?_⟩)
              refine wpX_quiet rfl (by kernel_rfl) rfl ?_; go_wp2_with (first | (refine wpList_load_row_g _ (by first | rfl | kernel_rfl) ⟨w.heap.size, 0, none⟩ rfl [.int .i64 _, .int .i64 _] agg_Id rfl (HXI.out _ HBX.out) ?_) | fail); refine ⟨rfl, ?_⟩
              refine wpX_nil ?_; try simp only [List.drop_succ_cons, List.drop_zero]
              go_wp2_with (first
                | ((with_reducible show wpList _ _ _ ({ dst := _, op := Op.load 40 _, type := _, pos := _, after := _, guard := _ } :: _) _ _); refine wpList_load_row _ (ad.add (j * 16)) rfl ci agg_Inst HCL.out (HC.out _ BW.out) ?_)
                | ((with_reducible show wpList _ _ _ ({ dst := _, op := Op.buildSlice _ _ _, type := _, pos := _, after := _, guard := _ } :: _) _ _); go_must (refine wpList_build1 rfl (.tmp 44) rfl ci HCL.out rfl ?_))
                | (at_builtin; go_must (refine wpList_app E_Inst _ rfl (.tmp 40) (.tmp 45) rfl (w.heap.size + 1) _ q cells rfl (HO.out.alloc _) _ _ _ _ rfl (Reads.new (e := 40) (by simp [HCL.out])) H1C.out (by omega) (by have h1 := HZ.out; simp; omega) ?_; intro vy w5 hown5 hg5 hat5; have hgb := HO.out.lt; obtain ⟨Avy, kvy, rfl, _⟩ := SlR.of_own hown5; have X := Lib.hid (show Blk w5 w.heap.size 40 cs.toArray from (HBX.out.alloc _).keep (hg5.block _ (HBX.out.alloc _).lt (fun e => by have h7 := (hgb _ e.symm).1; omega))); clear HBX; have HBX := Lib.hid X.out; clear X; have X := Lib.hid (show Below w.heap.size w w5 from Below.grown (BW.out.alloc BW.out.size _) hg5 (Nat.le_trans BW.out.size (by simp)) (fun k' hk => by have h7 := (hgb _ hk).1; omega)); clear BW; have BW := Lib.hid X.out; clear X; have X := Lib.hid (show w.heap.size + 1 ≤ w5.heap.size from HBX.out.lt); clear HZ; have HZ := Lib.hid X.out; clear X; have X := Lib.hid (show Rep (fun b => b < w.heap.size) w (cat InstD.c (acc ++ [y])) (cells ++ ci) from by rw [cat_app, cat_one]; exact Rep.app.2 ⟨_, _, rfl, HA.out, HRC.out⟩); clear HA; have HA := Lib.hid X.out; clear X; clear HO; have HO := Lib.hid hown5; clear hown5 hg5 hat5 hgb))
                | fail)
              exact ⟨⟨j + 1, _, false, Avy, kvy, _, _, by omega, rfl, rfl, by go_num, by have h0 := HQ.out; simp; omega, by omega, by have h0 := HT2.out; simpa [List.append_assoc] using h0, HO.out, HA.out, HBX.out, BW.out⟩, by simp only [intOf]; omega⟩
          · have e3 : (yr == xr) = false := by simpa using e1
            have hne : ¬ (⟨yr, ys⟩ : IdD) = ⟨xr, xs'⟩ := fun h => e1 (by injection h)
            have HNE := Lib.hid hne; clear hne e1
            have hT2 := HT.out
            rw [if_neg HNE.out] at hT2
            have HT2 := Lib.hid hT2; clear hT2
            go_wp2
            refine wp_region_x 7 [0, 1, 2, 3, 4, 5, 6] (by kernel_rfl) (by kernel_rfl) ?_
            have X := Lib.hid HBX.out.drew; clear HBX
            have HBX := Lib.hid X.out; clear X
            have X := Lib.hid BW.out.drew; clear BW
            have BW := Lib.hid X.out; clear X
            iterate 4 (refine wpX_quiet rfl (by kernel_rfl) rfl ?_; go_wp2; refine ⟨rfl, ?_⟩)
            refine wpX_quiet rfl (by kernel_rfl) rfl ?_; go_wp2_with (first | (refine wpList_load_row_g _ (by first | rfl | kernel_rfl) (ad.add (j * 16)) rfl [.int .i64 _, .int .i64 _] agg_Id rfl (HYI.out _ BW.out) ?_) | fail); refine ⟨rfl, ?_⟩
            iterate 1 (refine wpX_quiet rfl (by kernel_rfl) rfl ?_; go_wp2; refine ⟨rfl, ?_⟩)
            refine wpX_quiet rfl (by kernel_rfl) rfl ?_; go_wp2_with (first | (refine wpList_load_row_g _ (by first | rfl | kernel_rfl) ⟨w.heap.size, 0, none⟩ rfl [.int .i64 _, .int .i64 _] agg_Id rfl (HXI.out _ HBX.out) ?_) | fail); refine ⟨rfl, ?_⟩
            refine wpX_nil ?_; try simp only [List.drop_succ_cons, List.drop_zero]
            go_wp2_with (first
              | ((with_reducible show wpList _ _ _ ({ dst := _, op := Op.load 40 _, type := _, pos := _, after := _, guard := _ } :: _) _ _); refine wpList_load_row _ (ad.add (j * 16)) rfl ci agg_Inst HCL.out (HC.out _ BW.out) ?_)
              | ((with_reducible show wpList _ _ _ ({ dst := _, op := Op.buildSlice _ _ _, type := _, pos := _, after := _, guard := _ } :: _) _ _); go_must (refine wpList_build1 rfl (.tmp 44) rfl ci HCL.out rfl ?_))
              | (at_builtin; go_must (refine wpList_app E_Inst _ rfl (.tmp 40) (.tmp 45) rfl (w.heap.size + 1) _ q cells rfl (HO.out.alloc _) _ _ _ _ rfl (Reads.new (e := 40) (by simp [HCL.out])) H1C.out (by omega) (by have h1 := HZ.out; simp; omega) ?_; intro vy w5 hown5 hg5 hat5; have hgb := HO.out.lt; obtain ⟨Avy, kvy, rfl, _⟩ := SlR.of_own hown5; have X := Lib.hid (show Blk w5 w.heap.size 40 cs.toArray from (HBX.out.alloc _).keep (hg5.block _ (HBX.out.alloc _).lt (fun e => by have h7 := (hgb _ e.symm).1; omega))); clear HBX; have HBX := Lib.hid X.out; clear X; have X := Lib.hid (show Below w.heap.size w w5 from Below.grown (BW.out.alloc BW.out.size _) hg5 (Nat.le_trans BW.out.size (by simp)) (fun k' hk => by have h7 := (hgb _ hk).1; omega)); clear BW; have BW := Lib.hid X.out; clear X; have X := Lib.hid (show w.heap.size + 1 ≤ w5.heap.size from HBX.out.lt); clear HZ; have HZ := Lib.hid X.out; clear X; have X := Lib.hid (show Rep (fun b => b < w.heap.size) w (cat InstD.c (acc ++ [y])) (cells ++ ci) from by rw [cat_app, cat_one]; exact Rep.app.2 ⟨_, _, rfl, HA.out, HRC.out⟩); clear HA; have HA := Lib.hid X.out; clear X; clear HO; have HO := Lib.hid hown5; clear hown5 hg5 hat5 hgb))
              | fail)
            exact ⟨⟨j + 1, _, false, Avy, kvy, _, _, by omega, rfl, rfl, by go_num, by have h0 := HQ.out; simp; omega, by omega, by have h0 := HT2.out; simpa [List.append_assoc] using h0, HO.out, HA.out, HBX.out, BW.out⟩, by simp only [intOf]; omega⟩
        | false =>
          rw [hlt2] at HT
          have HLT := Lib.hid hlt2; clear hlt2
          have X := Lib.hid HT.out; clear HT
          have HT := Lib.hid (show (acc ++ [x]) ++ ((if (⟨yr, ys⟩ : IdD) = ⟨xr, xs'⟩ then [] else [y]) ++ putA x (xs.drop (j + 1)) true) = R from by rw [List.append_assoc]; exact X.out); clear X
          go_wp2
          refine wp_region_x 13 [0, 1, 2, 3, 4, 5, 6, 7, 8, 9, 10, 11, 12] (by kernel_rfl) (by kernel_rfl) ?_
          have X := Lib.hid HBX.out.drew; clear HBX
          have HBX := Lib.hid X.out; clear X
          have X := Lib.hid BW.out.drew; clear BW
          have BW := Lib.hid X.out; clear X
          iterate 7 (refine wpX_quiet rfl (by kernel_rfl) rfl ?_; go_wp2; refine ⟨rfl, ?_⟩)
          refine wpX_quiet rfl (by kernel_rfl) rfl ?_; go_wp2_with (first | (refine wpList_load_row_g _ (by first | rfl | kernel_rfl) (ad.add (j * 16)) rfl [.int .i64 _, .int .i64 _] agg_Id rfl (HYI.out _ BW.out) ?_) | fail); refine ⟨rfl, ?_⟩
          iterate 1 (refine wpX_quiet rfl (by kernel_rfl) rfl ?_; go_wp2; refine ⟨rfl, ?_⟩)
          refine wpX_quiet rfl (by kernel_rfl) rfl ?_; go_wp2_with (first | (refine wpList_load_row_g _ (by first | rfl | kernel_rfl) ⟨w.heap.size, 0, none⟩ rfl [.int .i64 _, .int .i64 _] agg_Id rfl (HXI.out _ HBX.out) ?_) | fail); refine ⟨rfl, ?_⟩
          refine wpX_actor rfl (by kernel_rfl) ?_; go_wp2_with fail
          refine (l8Less_any ⟨yr, ys⟩ ⟨xr, xs'⟩ _ _ _ (id_shut _ _) (id_shut _ _)).mono ?_
          rintro e v6 ⟨rfl, hb6⟩
          rw [HLT.out]
          have HB6 := Lib.hid hb6; clear hb6
          have X := Lib.hid (HBX.out.below HB6.out); clear HBX
          have HBX := Lib.hid X.out; clear X
          have X := Lib.hid (BW.out.trans (HB6.out.mono BW.out.size)); clear BW
          have BW := Lib.hid X.out; clear X
          have X := Lib.hid (show World.ownsRow v6 (w.heap.size + 1) 40 16 (.slice A' q c') q cells from World.ownsRow.keptBelowJ (w := wr.drew) HO.out HB6.out); clear HO
          have HO := Lib.hid X.out; clear X
          have X := Lib.hid (show w.heap.size + 1 ≤ v6.heap.size from HBX.out.lt); clear HZ
          have HZ := Lib.hid X.out; clear X
          go_wp2; refine ⟨Ext.of_below HB6.out, ?_⟩
          clear HB6
          iterate 2 (refine wpX_quiet rfl (by kernel_rfl) rfl ?_; go_wp2; refine ⟨rfl, ?_⟩)
          refine wpX_nil ?_; try simp only [List.drop_succ_cons, List.drop_zero]
          go_wp2_with (first
            | ((with_reducible show wpList _ _ _ ({ dst := _, op := Op.load 40 _, type := _, pos := _, after := _, guard := _ } :: _) _ _); refine wpList_load_row _ ⟨w.heap.size, 0, none⟩ rfl cs agg_Inst HL.out (blk_cells HBX.out) ?_)
            | ((with_reducible show wpList _ _ _ ({ dst := _, op := Op.buildSlice _ _ _, type := _, pos := _, after := _, guard := _ } :: _) _ _); go_must (refine wpList_build1 rfl (.tmp 29) rfl cs HL.out rfl ?_))
            | (at_builtin; go_must (refine wpList_app E_Inst _ rfl (.tmp 28) (.tmp 30) rfl (w.heap.size + 1) _ q cells rfl (HO.out.alloc _) _ _ _ _ rfl (Reads.new (e := 40) (by simp [HL.out])) HX1.out (by omega) (by have h1 := HZ.out; simp; omega) ?_; intro vx w5 hown5 hg5 hat5; have hgb := HO.out.lt; obtain ⟨Avx, kvx, rfl, _⟩ := SlR.of_own hown5; have X := Lib.hid (show Blk w5 w.heap.size 40 cs.toArray from (HBX.out.alloc _).keep (hg5.block _ (HBX.out.alloc _).lt (fun e => by have h7 := (hgb _ e.symm).1; omega))); clear HBX; have HBX := Lib.hid X.out; clear X; have X := Lib.hid (show Below w.heap.size w w5 from Below.grown (BW.out.alloc BW.out.size _) hg5 (Nat.le_trans BW.out.size (by simp)) (fun k' hk => by have h7 := (hgb _ hk).1; omega)); clear BW; have BW := Lib.hid X.out; clear X; have X := Lib.hid (show w.heap.size + 1 ≤ w5.heap.size from HBX.out.lt); clear HZ; have HZ := Lib.hid X.out; clear X; have X := Lib.hid (show Rep (fun b => b < w.heap.size) w (cat InstD.c (acc ++ [x])) (cells ++ cs) from by rw [cat_app, cat_one]; exact Rep.app.2 ⟨_, _, rfl, HA.out, HXR.out⟩); clear HA; have HA := Lib.hid X.out; clear X; clear HO; have HO := Lib.hid hown5; clear hown5 hg5 hat5 hgb))
            | fail)
          by_cases e1 : yr = xr
          · subst e1
            by_cases e2 : ys = xs'
            · subst e2
              have hT2 := HT.out
              rw [if_pos rfl] at hT2
              have HT2 := Lib.hid hT2; clear hT2
              go_wp2
              refine wp_region_x 7 [0, 1, 2, 3, 4, 5, 6] (by kernel_rfl) (by kernel_rfl) ?_
              have X := Lib.hid HBX.out.drew; clear HBX
              have HBX := Lib.hid X.out; clear X
              have X := Lib.hid BW.out.drew; clear BW
              have BW := Lib.hid X.out; clear X
              iterate 4 (refine wpX_quiet rfl (by kernel_rfl) rfl ?_; go_wp2; refine ⟨rfl, ?_⟩)
              refine wpX_quiet rfl (by kernel_rfl) rfl ?_; go_wp2_with (first | (refine wpList_load_row_g _ (by first | rfl | kernel_rfl) (ad.add (j * 16)) rfl [.int .i64 _, .int .i64 _] agg_Id rfl (HYI.out _ BW.out) ?_) | fail); refine ⟨rfl, ?_⟩
              iterate 1 (refine wpX_quiet rfl (by kernel_rfl) rfl ?_; go_wp2; refine ⟨rfl, ?_⟩)
              refine wpX_quiet rfl (by kernel_rfl) rfl ?_; go_wp2_with (first | (refine wpList_load_row_g _ (by first | rfl | kernel_rfl) ⟨w.heap.size, 0, none⟩ rfl [.int .i64 _, .int .i64 _] agg_Id rfl (HXI.out _ HBX.out) ?_) | fail); refine ⟨rfl, ?_⟩
              refine wpX_nil ?_; try simp only [List.drop_succ_cons, List.drop_zero]
              go_wp2
              exact ⟨⟨j + 1, _, true, Avx, kvx, _, _, by omega, rfl, rfl, by go_num, by have h0 := HQ.out; simp; omega, by omega, by have h0 := HT2.out; simpa [List.append_assoc] using h0, HO.out, HA.out, HBX.out, BW.out⟩, by simp only [intOf]; omega⟩
            · have e3 : (ys == xs') = false := by simpa using e2
              have hne : ¬ (⟨yr, ys⟩ : IdD) = ⟨yr, xs'⟩ := fun h => e2 (by injection h)
              have HNE := Lib.hid hne; clear hne e2
              have hT2 := HT.out
              rw [if_neg HNE.out] at hT2
              have HT2 := Lib.hid hT2; clear hT2
              go_wp2
              refine wp_region_x 7 [0, 1, 2, 3, 4, 5, 6] (by kernel_rfl) (by kernel_rfl) ?_
              have X := Lib.hid HBX.out.drew; clear HBX
              have HBX := Lib.hid X.out; clear X
              have X := Lib.hid BW.out.drew; clear BW
              have BW := Lib.hid X.out; clear X
              iterate 4 (refine wpX_quiet rfl (by kernel_rfl) rfl ?_; go_wp2; refine ⟨rfl, ?_⟩)
              refine wpX_quiet rfl (by kernel_rfl) rfl ?_; go_wp2_with (first | (refine wpList_load_row_g _ (by first | rfl | kernel_rfl) (ad.add (j * 16)) rfl [.int .i64 _, .int .i64 _] agg_Id rfl (HYI.out _ BW.out) ?_) | fail); refine ⟨rfl, ?_⟩
              iterate 1 (refine wpX_quiet rfl (by kernel_rfl) rfl ?_; go_wp2; refine ⟨rfl, ?_⟩)
              refine wpX_quiet rfl (by kernel_rfl) rfl ?_; go_wp2_with (first | (refine wpList_load_row_g _ (by first | rfl | kernel_rfl) ⟨w.heap.size, 0, none⟩ rfl [.int .i64 _, .int .i64 _] agg_Id rfl (HXI.out _ HBX.out) ?_) | fail); refine ⟨rfl, ?_⟩
              refine wpX_nil ?_; try simp only [List.drop_succ_cons, List.drop_zero]
              go_wp2_with (first
                | ((with_reducible show wpList _ _ _ ({ dst := _, op := Op.load 40 _, type := _, pos := _, after := _, guard := _ } :: _) _ _); refine wpList_load_row _ (ad.add (j * 16)) rfl ci agg_Inst HCL.out (HC.out _ BW.out) ?_)
                | ((with_reducible show wpList _ _ _ ({ dst := _, op := Op.buildSlice _ _ _, type := _, pos := _, after := _, guard := _ } :: _) _ _); go_must (refine wpList_build1 rfl (.tmp 44) rfl ci HCL.out rfl ?_))
                | (at_builtin; go_must (refine wpList_app E_Inst _ rfl (.tmp 40) (.tmp 45) rfl (w.heap.size + 1) _ (q + 1) (cells ++ cs) rfl (HO.out.alloc _) _ _ _ _ rfl (Reads.new (e := 40) (by simp [HCL.out])) H1C.out (by omega) (by have h1 := HZ.out; simp; omega) ?_; intro vxy w5 hown5 hg5 hat5; have hgb := HO.out.lt; obtain ⟨Avxy, kvxy, rfl, _⟩ := SlR.of_own hown5; have X := Lib.hid (show Blk w5 w.heap.size 40 cs.toArray from (HBX.out.alloc _).keep (hg5.block _ (HBX.out.alloc _).lt (fun e => by have h7 := (hgb _ e.symm).1; omega))); clear HBX; have HBX := Lib.hid X.out; clear X; have X := Lib.hid (show Below w.heap.size w w5 from Below.grown (BW.out.alloc BW.out.size _) hg5 (Nat.le_trans BW.out.size (by simp)) (fun k' hk => by have h7 := (hgb _ hk).1; omega)); clear BW; have BW := Lib.hid X.out; clear X; have X := Lib.hid (show w.heap.size + 1 ≤ w5.heap.size from HBX.out.lt); clear HZ; have HZ := Lib.hid X.out; clear X; have X := Lib.hid (show Rep (fun b => b < w.heap.size) w (cat InstD.c ((acc ++ [x]) ++ [y])) ((cells ++ cs) ++ ci) from by rw [cat_app, cat_one]; exact Rep.app.2 ⟨_, _, rfl, HA.out, HRC.out⟩); clear HA; have HA := Lib.hid X.out; clear X; clear HO; have HO := Lib.hid hown5; clear hown5 hg5 hat5 hgb))
                | fail)
              exact ⟨⟨j + 1, _, true, Avxy, kvxy, _, _, by omega, rfl, rfl, by go_num, by have h0 := HQ.out; simp; omega, by omega, by have h0 := HT2.out; simpa [List.append_assoc] using h0, HO.out, HA.out, HBX.out, BW.out⟩, by simp only [intOf]; omega⟩
          · have e3 : (yr == xr) = false := by simpa using e1
            have hne : ¬ (⟨yr, ys⟩ : IdD) = ⟨xr, xs'⟩ := fun h => e1 (by injection h)
            have HNE := Lib.hid hne; clear hne e1
            have hT2 := HT.out
            rw [if_neg HNE.out] at hT2
            have HT2 := Lib.hid hT2; clear hT2
            go_wp2
            refine wp_region_x 7 [0, 1, 2, 3, 4, 5, 6] (by kernel_rfl) (by kernel_rfl) ?_
            have X := Lib.hid HBX.out.drew; clear HBX
            have HBX := Lib.hid X.out; clear X
            have X := Lib.hid BW.out.drew; clear BW
            have BW := Lib.hid X.out; clear X
            iterate 4 (refine wpX_quiet rfl (by kernel_rfl) rfl ?_; go_wp2; refine ⟨rfl, ?_⟩)
            refine wpX_quiet rfl (by kernel_rfl) rfl ?_; go_wp2_with (first | (refine wpList_load_row_g _ (by first | rfl | kernel_rfl) (ad.add (j * 16)) rfl [.int .i64 _, .int .i64 _] agg_Id rfl (HYI.out _ BW.out) ?_) | fail); refine ⟨rfl, ?_⟩
            iterate 1 (refine wpX_quiet rfl (by kernel_rfl) rfl ?_; go_wp2; refine ⟨rfl, ?_⟩)
            refine wpX_quiet rfl (by kernel_rfl) rfl ?_; go_wp2_with (first | (refine wpList_load_row_g _ (by first | rfl | kernel_rfl) ⟨w.heap.size, 0, none⟩ rfl [.int .i64 _, .int .i64 _] agg_Id rfl (HXI.out _ HBX.out) ?_) | fail); refine ⟨rfl, ?_⟩
            refine wpX_nil ?_; try simp only [List.drop_succ_cons, List.drop_zero]
            go_wp2_with (first
              | ((with_reducible show wpList _ _ _ ({ dst := _, op := Op.load 40 _, type := _, pos := _, after := _, guard := _ } :: _) _ _); refine wpList_load_row _ (ad.add (j * 16)) rfl ci agg_Inst HCL.out (HC.out _ BW.out) ?_)
              | ((with_reducible show wpList _ _ _ ({ dst := _, op := Op.buildSlice _ _ _, type := _, pos := _, after := _, guard := _ } :: _) _ _); go_must (refine wpList_build1 rfl (.tmp 44) rfl ci HCL.out rfl ?_))
              | (at_builtin; go_must (refine wpList_app E_Inst _ rfl (.tmp 40) (.tmp 45) rfl (w.heap.size + 1) _ (q + 1) (cells ++ cs) rfl (HO.out.alloc _) _ _ _ _ rfl (Reads.new (e := 40) (by simp [HCL.out])) H1C.out (by omega) (by have h1 := HZ.out; simp; omega) ?_; intro vxy w5 hown5 hg5 hat5; have hgb := HO.out.lt; obtain ⟨Avxy, kvxy, rfl, _⟩ := SlR.of_own hown5; have X := Lib.hid (show Blk w5 w.heap.size 40 cs.toArray from (HBX.out.alloc _).keep (hg5.block _ (HBX.out.alloc _).lt (fun e => by have h7 := (hgb _ e.symm).1; omega))); clear HBX; have HBX := Lib.hid X.out; clear X; have X := Lib.hid (show Below w.heap.size w w5 from Below.grown (BW.out.alloc BW.out.size _) hg5 (Nat.le_trans BW.out.size (by simp)) (fun k' hk => by have h7 := (hgb _ hk).1; omega)); clear BW; have BW := Lib.hid X.out; clear X; have X := Lib.hid (show w.heap.size + 1 ≤ w5.heap.size from HBX.out.lt); clear HZ; have HZ := Lib.hid X.out; clear X; have X := Lib.hid (show Rep (fun b => b < w.heap.size) w (cat InstD.c ((acc ++ [x]) ++ [y])) ((cells ++ cs) ++ ci) from by rw [cat_app, cat_one]; exact Rep.app.2 ⟨_, _, rfl, HA.out, HRC.out⟩); clear HA; have HA := Lib.hid X.out; clear X; clear HO; have HO := Lib.hid hown5; clear hown5 hg5 hat5 hgb))
              | fail)
            exact ⟨⟨j + 1, _, true, Avxy, kvxy, _, _, by omega, rfl, rfl, by go_num, by have h0 := HQ.out; simp; omega, by omega, by have h0 := HT2.out; simpa [List.append_assoc] using h0, HO.out, HA.out, HBX.out, BW.out⟩, by simp only [intOf]; omega⟩
    · have hjn : j = n := by omega
      subst hjn
      have hd : xs.drop j = [] := List.drop_eq_nil_of_le (by have := HN.out; omega)
      rw [hd] at hT
      have HT := Lib.hid hT; clear hT hd
      cases p with
      | true =>
        have hT2 : acc = R := by have h0 := HT.out; simpa [putA] using h0
        subst hT2
        go_wp2
        go_ret
        exact ⟨_, _, _, rfl, HQ.out, own_repI HO.out (by rw [cat_width InstD.width, HQ.out]) (HA.out.keepM BW.out.size (fun b _ h1 => ⟨trivial, BW.out.block b h1⟩)), BW.out⟩
      | false =>
        have hT2 : acc ++ [x] = R := by have h0 := HT.out; simpa [putA] using h0
        have HT2 := Lib.hid hT2; clear hT2
        go_wp2_with (first
          | ((with_reducible show wpList _ _ _ ({ dst := _, op := Op.load 40 _, type := _, pos := _, after := _, guard := _ } :: _) _ _); refine wpList_load_row _ ⟨w.heap.size, 0, none⟩ rfl cs agg_Inst HL.out (blk_cells HBX.out) ?_)
          | ((with_reducible show wpList _ _ _ ({ dst := _, op := Op.buildSlice _ _ _, type := _, pos := _, after := _, guard := _ } :: _) _ _); go_must (refine wpList_build1 rfl (.tmp 50) rfl cs HL.out rfl ?_))
          | (at_builtin; go_must (refine wpList_app E_Inst _ rfl (.tmp 49) (.tmp 51) rfl (w.heap.size + 1) _ q cells rfl (HO.out.alloc _) _ _ _ _ rfl (Reads.new (e := 40) (by simp [HL.out])) HX1.out (by omega) (by have h1 := HZ.out; simp; omega) ?_; intro vx w5 hown5 hg5 hat5; have hgb := HO.out.lt; obtain ⟨Avx, kvx, rfl, _⟩ := SlR.of_own hown5; have X := Lib.hid (show Blk w5 w.heap.size 40 cs.toArray from (HBX.out.alloc _).keep (hg5.block _ (HBX.out.alloc _).lt (fun e => by have h7 := (hgb _ e.symm).1; omega))); clear HBX; have HBX := Lib.hid X.out; clear X; have X := Lib.hid (show Below w.heap.size w w5 from Below.grown (BW.out.alloc BW.out.size _) hg5 (Nat.le_trans BW.out.size (by simp)) (fun k' hk => by have h7 := (hgb _ hk).1; omega)); clear BW; have BW := Lib.hid X.out; clear X; have X := Lib.hid (show w.heap.size + 1 ≤ w5.heap.size from HBX.out.lt); clear HZ; have HZ := Lib.hid X.out; clear X; have X := Lib.hid (show Rep (fun b => b < w.heap.size) w (cat InstD.c (acc ++ [x])) (cells ++ cs) from by rw [cat_app, cat_one]; exact Rep.app.2 ⟨_, _, rfl, HA.out, HXR.out⟩); clear HA; have HA := Lib.hid X.out; clear X; clear HO; have HO := Lib.hid hown5; clear hown5 hg5 hat5 hgb))
          | fail)
        go_ret
        exact ⟨_, _, _, rfl, by rw [← HT2.out, HQ.out]; simp, by rw [← HT2.out]; exact own_repI HO.out (by rw [cat_width InstD.width, List.length_append, HQ.out]; rfl) (HA.out.keepM BW.out.size (fun b _ h1 => ⟨trivial, BW.out.block b h1⟩)), BW.out⟩

set_option maxRecDepth 100000 in
set_option maxHeartbeats 4000000 in
theorem sInstPut_any (xs : List InstD) (x : InstD) (A : Option Addr) (n c : Nat) (cs : List Value) (w : World) (hn : n = xs.length) (hwt : n + (cat InstD.c xs).wt ≤ 1048576) (hwx : x.c.wt ≤ 1048576) (h : Rep anyB w (.sl 40 16 n (cat InstD.c xs) .nil) [.slice A n c]) (h' : Rep anyB w x.c cs) :
    Calls Try.prog 8 #[.slice A n c, .agg cs.toArray] w fun e w' => ∃ A2 m c2, e = .returned (.slice A2 m c2) ∧ m = (fInstPut xs x).length ∧ Mine w' w.heap.size (.sl 40 16 m (cat InstD.c (fInstPut xs x)) .nil) [.slice A2 m c2] ∧ Below w.heap.size w w' := by
  have HL := Lib.hid (show cs.length = 16 from h'.length.trans (InstD.width x))
  obtain ⟨R, hR⟩ : ∃ R, R = fInstPut xs x := ⟨_, rfl⟩
  rw [← hR]
  have HRF := Lib.hid hR; clear hR
  have HX := Lib.hid h'; clear h'
  have HR := Lib.hid h; clear h
  have HN := Lib.hid hn; clear hn
  have HW := Lib.hid (fun y (hy : y ∈ xs) => show (y.c).wt ≤ 1048576 by have := cat_wt_le (f := InstD.c) hy; omega)
  have HWT := Lib.hid hwt
  have hn1 : n ≤ 1048576 := by omega
  clear hwt
  have HBX := Lib.hid (blk_new w cs.toArray 40)
  have BW := Lib.hid (show Below w.heap.size w (w.alloc (.cells cs.toArray 40)) from (by repeat' (first | with_reducible exact Below.refl _ _ | with_reducible exact BW.out | with_reducible refine Below.setCell ?_ ?_ _ | with_reducible refine Below.alloc ?_ ?_ _ | with_reducible refine Below.drew ?_ | (simp; done) | (simp; omega) | omega)))
  go_enter Try.func8, Try.ntmps8
  go_wp2_with fail
  refine (sInstsOk_any xs A n c _ HN.out HWT.out (HR.out.below BW.out)).mono ?_; rintro e v1 ⟨rfl, hb⟩
  have X := Lib.hid (HBX.out.below hb); clear HBX
  have HBX := Lib.hid X.out; clear X
  have X := Lib.hid (BW.out.trans (hb.mono BW.out.size)); clear BW hb
  have BW := Lib.hid X.out; clear X
  cases hok : instsOkB xs with
  | false =>
    obtain rfl : R = [] := by rw [HRF.out, fInstPut, if_neg (by simp [hok])]
    go_wp2
    go_ret
    exact ⟨_, _, _, rfl, rfl, (mine_row1 (base := w.heap.size) (World.ownsRow_made v1 #[] 0 BW.out.size (by simp [maxLen]) rfl)), BW.out.alloc BW.out.size _⟩
  | true =>
    have HF := Lib.hid (show R = if instOkB x = true then fPut xs x else xs by rw [HRF.out, fInstPut, if_pos hok])
    go_wp2_with (first | ((with_reducible show wpList _ _ _ ({ dst := _, op := Op.load 40 _, type := _, pos := _, after := _, guard := _ } :: _) _ _); refine wpList_load_row _ ⟨w.heap.size, 0, none⟩ rfl cs agg_Inst HL.out (blk_cells HBX.out) ?_) | fail)
    refine (sInstOk_any x cs _ hwx (HX.out.below BW.out)).mono ?_; rintro e v2 ⟨rfl, hb⟩
    have X := Lib.hid (HBX.out.below hb); clear HBX
    have HBX := Lib.hid X.out; clear X
    have X := Lib.hid (BW.out.trans (hb.mono BW.out.size)); clear BW hb
    have BW := Lib.hid X.out; clear X
    cases hox : instOkB x with
    | false =>
      obtain rfl : xs = R := by rw [HF.out, if_neg (by simp [hox])]
      clear HF HRF
      go_wp2_with fail
      refine (l8CopyAll_any xs A n c _ HN.out (by omega) HW.out (HR.out.below BW.out)).mono ?_; rintro e v3 ⟨A2, c2, rfl, hm, hb⟩
      have HM := Lib.hid (hm.mono BW.out.size); clear hm
      have X := Lib.hid (BW.out.trans (hb.mono BW.out.size)); clear BW hb
      have BW := Lib.hid X.out; clear X
      go_wp2
      go_ret
      exact ⟨_, _, _, rfl, HN.out, HM.out, BW.out⟩
    | true =>
      obtain rfl : R = fPut xs x := by rw [HF.out, if_pos hox]
      clear HF HRF
      go_wp2_with (first | ((with_reducible show wpList _ _ _ ({ dst := _, op := Op.load 40 _, type := _, pos := _, after := _, guard := _ } :: _) _ _); refine wpList_load_row _ ⟨w.heap.size, 0, none⟩ rfl cs agg_Inst HL.out (blk_cells HBX.out) ?_) | fail)
      refine (l8Put_any xs x A n c cs _ HN.out hn1 (HR.out.below BW.out) (HX.out.below BW.out)).mono ?_; rintro e v3 ⟨A2, m, c2, rfl, hm, hr, hb⟩
      have HM := Lib.hid hm; clear hm
      have HPR := Lib.hid hr; clear hr
      have hml : m ≤ n + 1 := by have h1 := HM.out; have h2 := putA_len x xs false; have h3 := HN.out; unfold fPut at h1; omega
      have X := Lib.hid (BW.out.trans (hb.mono BW.out.size)); clear BW hb
      have BW := Lib.hid X.out; clear X
      go_wp2_with fail
      refine (l8CopyAll_any (fPut xs x) A2 m c2 _ HM.out (by omega) (put_wt HW.out hwx) HPR.out).mono ?_; rintro e v4 ⟨A3, c3, rfl, hm, hb⟩
      have HM2 := Lib.hid (hm.mono BW.out.size); clear hm
      have X := Lib.hid (BW.out.trans (hb.mono BW.out.size)); clear BW hb
      have BW := Lib.hid X.out; clear X
      go_wp2
      go_ret
      exact ⟨_, _, _, rfl, HM.out, HM2.out, BW.out⟩

end Go.Proofs.Ytoffelfcmfpooaa
namespace Go.Proofs.Ytoffelfcmfpooaa
open Go.RowKit
theorem own_swap {w : World} {base e sz n c g : Nat} {α : Type} {f : α → Cs} {a b : List α} {x : α} {F : List Nat} (hf : ∀ x, (f x).width = sz)
    (h : Own w base (.sl e sz n (cat f (a ++ x :: b)) .nil) [.slice (some ⟨g, 0, none⟩) n c] F) (hnd : F.Nodup) :
    ∃ c1 c2 c3 spare, c1.length = a.length * sz ∧ c2.length = sz ∧ base ≤ g ∧ Blk w g e (c1 ++ (c2 ++ (c3 ++ spare))).toArray ∧
      ∀ w' x' c2' G', Own w' base (f x') c2' G' → G'.Nodup → (∀ b ∈ G', b ∉ F) → w.grownBy w' (some g) → Blk w' g e (c1 ++ (c2' ++ (c3 ++ spare))).toArray → Mine w' base (.sl e sz n (cat f (a ++ x' :: b)) .nil) [.slice (some ⟨g, 0, none⟩) n c] := by
  obtain ⟨cells, F1, rfl, hw, hr, hi⟩ := Own.sl1.1 h
  rw [cat_app, cat_cons] at hi
  obtain ⟨c1, _, G1, _, rfl, rfl, h1, hi⟩ := Own.app.1 hi
  obtain ⟨c2, c3, G2, G3, rfl, rfl, h2, h3⟩ := Own.app.1 hi
  have hr2 := hr.2
  rcases hr2 with ⟨h0, _⟩ | ⟨g', cap, cur, hv, hb, hh, hnc, hcm, hs, ht⟩
  · cases h0
  injection hv with e1 _ e3
  injection e1 with e1
  injection e1 with e1
  subst e1 e3
  have hcur : cur.toList = c1 ++ (c2 ++ (c3 ++ cur.toList.drop (n * sz))) := by
    conv => lhs; rw [← List.take_append_drop (n * sz) cur.toList, ht]
    simp only [List.append_assoc]
  have hl1 : c1.length = a.length * sz := by rw [h1.length, cat_width hf]
  have hl2 : c2.length = sz := by rw [h2.length, hf]
  have hcs : cur = (c1 ++ (c2 ++ (c3 ++ cur.toList.drop (n * sz)))).toArray := by rw [← hcur, Array.toArray_toList]
  have hnd0 : (g :: (G1 ++ (G2 ++ G3))).Nodup := hnd
  obtain ⟨hng, hnd1⟩ := List.nodup_cons.1 hnd0
  obtain ⟨n1, n23, d123⟩ := List.nodup_append.1 hnd1
  obtain ⟨n2, n3, d23⟩ := List.nodup_append.1 n23
  refine ⟨c1, c2, c3, cur.toList.drop (n * sz), hl1, hl2, hb, by rw [← hcs]; exact hh, fun w' x' c2' G' o2 nG hdis hgr hb' => ?_⟩
  have hl2' : c2'.length = sz := by rw [o2.length, hf]
  have hdis' : ∀ b ∈ G', ¬ (b = g ∨ b ∈ G1 ∨ b ∈ G2 ∨ b ∈ G3) := fun b hb h => hdis b hb (by
    show b ∈ g :: (G1 ++ (G2 ++ G3))
    simp only [List.mem_cons, List.mem_append]
    exact h)
  have o1 : Own w' base (cat f a) c1 G1 := h1.keep (fun b hb => hgr.block b (h1.in b hb).2 (fun e => hng (by injection e with e; rw [← e]; exact List.mem_append_left _ hb)))
  have o3 : Own w' base (cat f b) c3 G3 := h3.keep (fun b hb => hgr.block b (h3.in b hb).2 (fun e => hng (by injection e with e; rw [← e]; exact List.mem_append_right _ (List.mem_append_right _ hb))))
  refine ⟨g :: (G1 ++ (G' ++ G3)), List.nodup_cons.2 ⟨fun hm => ?_, List.nodup_append.2 ⟨n1, List.nodup_append.2 ⟨nG, n3, fun x hx y hy e => hdis' x hx (by rw [e]; exact .inr (.inr (.inr hy)))⟩, fun x hx y hy e => ?_⟩⟩, Own.sl1.2 ⟨c1 ++ (c2' ++ c3), G1 ++ (G' ++ G3), rfl, ?_, ⟨?_, .inr ⟨g, c, _, rfl, hb, hb', hnc, hcm, ?_, ?_⟩⟩, ?_⟩⟩
  · rcases List.mem_append.1 hm with h | h
    · exact hng (List.mem_append_left _ h)
    · rcases List.mem_append.1 h with h | h
      · exact hdis' g h (.inl rfl)
      · exact hng (List.mem_append_right _ (List.mem_append_right _ h))
  · rcases List.mem_append.1 hy with h | h
    · exact hdis' y h (by rw [← e]; exact .inr (.inl hx))
    · exact d123 x hx y (List.mem_append_right _ h) e
  · rw [cat_app, cat_cons, Cs.width_app, Cs.width_app, hf] at hw ⊢
    exact hw
  · have := hr.1
    simp only [List.length_append] at this ⊢
    omega
  · rw [← hs]
    conv => rhs; rw [hcs]
    simp only [List.size_toArray, List.length_append]
    omega
  · have hlen : (c1 ++ (c2' ++ c3)).length = n * sz := by
      have := hr.1
      simp only [List.length_append] at this ⊢
      omega
    simp only []
    rw [show c1 ++ (c2' ++ (c3 ++ cur.toList.drop (n * sz))) = (c1 ++ (c2' ++ c3)) ++ cur.toList.drop (n * sz) by simp only [List.append_assoc], ← hlen, List.take_left']
    rfl
  · rw [cat_app, cat_cons]
    exact Own.app.2 ⟨_, _, _, _, rfl, rfl, o1, Own.app.2 ⟨_, _, _, _, rfl, rfl, o2, o3⟩⟩
theorem set_split {α : Type} (xs : List α) (k : Nat) (hk : k < xs.length) (x : α) : xs = xs.take k ++ xs[k] :: xs.drop (k + 1) ∧ xs.set k x = xs.take k ++ x :: xs.drop (k + 1) := by
  refine ⟨?_, List.set_eq_take_append_cons_drop .. |>.trans (by rw [if_pos hk])⟩
  rw [← List.drop_eq_getElem_cons hk, List.take_append_drop]
end Go.Proofs.Ytoffelfcmfpooaa
namespace Go.Proofs
open Go.Shelf
def Try.sortId_ren : Go.Shelf.Ren := ⟨fun | 6 => 84 | 15 => 76 | 14 => 105 | 28 => 102 | 29 => 103 | 20 => 116 | 21 => 117 | 22 => 118 | 23 => 119 | 24 => 120 | 25 => 121 | 26 => 122 | 27 => 123 | 46 => 127 | 47 => 112 | 48 => 113 | 49 => 128 | 50 => 129 | 57 => 130 | n => n, fun | 22 => 38 | 24 => 36 | 25 => 66 | 3 => 3 | 39 => 90 | 0 => 0 | 53 => 106 | 55 => 108 | 4 => 4 | 46 => 99 | 45 => 98 | 50 => 103 | 5 => 5 | 9 => 9 | 66 => 113 | 70 => 117 | 76 => 124 | 77 => 125 | n => n, fun | n => n⟩
theorem Try.sortId : Go.Proofs.SlLaysF0.n6 Try.prog Try.sortId_ren := {
  mixed := by kernel_rfl
  f6 := ⟨Try.f84.name, by decide, Try.func84.trans (congrArg some (by kernel_rfl))⟩
  f14 := ⟨Try.f105.name, by decide, Try.func105.trans (congrArg some (by kernel_rfl))⟩
  f15 := Try.func76.trans (congrArg some (by kernel_rfl))
  f20 := ⟨Try.f116.name, by decide, Try.func116.trans (congrArg some (by kernel_rfl))⟩
  f21 := ⟨Try.f117.name, by decide, Try.func117.trans (congrArg some (by kernel_rfl))⟩
  f22 := ⟨Try.f118.name, by decide, Try.func118.trans (congrArg some (by kernel_rfl))⟩
  f23 := ⟨Try.f119.name, by decide, Try.func119.trans (congrArg some (by kernel_rfl))⟩
  f24 := ⟨Try.f120.name, by decide, Try.func120.trans (congrArg some (by kernel_rfl))⟩
  f25 := ⟨Try.f121.name, by decide, Try.func121.trans (congrArg some (by kernel_rfl))⟩
  f26 := ⟨Try.f122.name, by decide, Try.func122.trans (congrArg some (by kernel_rfl))⟩
  f27 := ⟨Try.f123.name, by decide, Try.func123.trans (congrArg some (by kernel_rfl))⟩
  f28 := Try.func102.trans (congrArg some (by kernel_rfl))
  f29 := Try.func103.trans (congrArg some (by kernel_rfl))
  f46 := ⟨Try.f127.name, by decide, Try.func127.trans (congrArg some (by kernel_rfl))⟩
  f47 := Try.func112.trans (congrArg some (by kernel_rfl))
  f48 := Try.func113.trans (congrArg some (by kernel_rfl))
  f49 := ⟨Try.f128.name, by decide, Try.func128.trans (congrArg some (by kernel_rfl))⟩
  f50 := ⟨Try.f129.name, by decide, Try.func129.trans (congrArg some (by kernel_rfl))⟩
  f57 := ⟨Try.f130.name, by decide, Try.func130.trans (congrArg some (by kernel_rfl))⟩
  t0 := Try.underlying0
  a0 := Try.isAgg0
  z0 := Try.sizeOf0
  v0 := Try.zeroValue0
  t3 := Try.underlying3
  a3 := Try.isAgg3
  z3 := Try.sizeOf3
  v3 := Try.zeroValue3
  t4 := Try.underlying4
  a4 := Try.isAgg4
  z4 := Try.sizeOf4
  v4 := Try.zeroValue4
  t5 := Try.underlying5
  a5 := Try.isAgg5
  z5 := Try.sizeOf5
  v5 := Try.zeroValue5
  t9 := Try.underlying9
  a9 := Try.isAgg9
  z9 := Try.sizeOf9
  v9 := Try.zeroValue9
  t22 := Try.underlying38
  a22 := Try.isAgg38
  z22 := Try.sizeOf38
  v22 := Try.zeroValue38
  t25 := Try.underlying66
  a25 := Try.isAgg66
  z25 := Try.sizeOf66
  v25 := Try.zeroValue66
  t39 := Try.underlying90
  a39 := Try.isAgg90
  z39 := Try.sizeOf90
  v39 := Try.zeroValue90
  t45 := Try.underlying98
  a45 := Try.isAgg98
  z45 := Try.sizeOf98
  v45 := Try.zeroValue98
  t46 := Try.underlying99
  a46 := Try.isAgg99
  z46 := Try.sizeOf99
  v46 := Try.zeroValue99
  t50 := Try.underlying103
  a50 := Try.isAgg103
  z50 := Try.sizeOf103
  v50 := Try.zeroValue103
  t53 := Try.underlying106
  a53 := Try.isAgg106
  z53 := Try.sizeOf106
  v53 := Try.zeroValue106
  t55 := Try.underlying108
  a55 := Try.isAgg108
  z55 := Try.sizeOf108
  v55 := Try.zeroValue108
  t66 := Try.underlying113
  a66 := Try.isAgg113
  z66 := Try.sizeOf113
  v66 := Try.zeroValue113
  t70 := Try.underlying117
  a70 := Try.isAgg117
  z70 := Try.sizeOf117
  v70 := Try.zeroValue117
  t76 := Try.underlying124
  a76 := Try.isAgg124
  z76 := Try.sizeOf124
  v76 := Try.zeroValue124
  t77 := Try.underlying125
  a77 := Try.isAgg125
  z77 := Try.sizeOf125
  v77 := Try.zeroValue125 }
end Go.Proofs
namespace Go.Proofs.Ytoffelfcmfpooaa
open Go.RowKit Go.Shelf Go.Lib Go.Sort

set_option maxRecDepth 100000 in
set_option maxHeartbeats 1000000 in
theorem compareIds_exact (x y : IdD) (w : World) :
    Calls Try.prog 42 #[.agg #[.int .i64 x.rep, .int .i64 x.slot], .agg #[.int .i64 y.rep, .int .i64 y.slot]] w fun e w' => e = .returned (.int .i64 (idCmp x y)) ∧ ∃ (q : Nat) (os' : Array Obj), w' = grow (w.drewN q) os' := by
  obtain ⟨xr, xs⟩ := x
  obtain ⟨yr, ys⟩ := y
  have hid : idLt ⟨xr, xs⟩ ⟨yr, ys⟩ = decide (xr < yr ∨ xr = yr ∧ xs < ys) := rfl
  have HI := Lib.hid hid; clear hid
  simp only []
  by_cases h1 : xr < yr
  · have HR := Lib.hid (show idCmp ⟨xr, xs⟩ ⟨yr, ys⟩ = -1 by rw [idCmp, if_pos (by rw [HI.out]; simp [h1])])
    go_enter Try.func42, Try.ntmps42
    go_wp2
    go_ret
    exact ⟨ret_eq (by rw [HR.out]; rfl), ⟨0, _, by rw [alloc_eq_grow, alloc_eq_grow, grow_grow]; rfl⟩⟩
  · by_cases h2 : xr = yr
    · subst h2
      clear h1
      by_cases h3 : xs < ys
      · have HR := Lib.hid (show idCmp ⟨xr, xs⟩ ⟨xr, ys⟩ = -1 by rw [idCmp, if_pos (by rw [HI.out]; simp [h3])])
        go_enter Try.func42, Try.ntmps42
        go_wp2
        go_ret
        exact ⟨ret_eq (by rw [HR.out]; rfl), ⟨0, _, by rw [alloc_eq_grow, alloc_eq_grow, grow_grow]; rfl⟩⟩
      · by_cases h4 : xs = ys
        · subst h4
          have HR := Lib.hid (show idCmp ⟨xr, xs⟩ ⟨xr, xs⟩ = 0 by rw [idCmp, if_neg (by rw [HI.out]; simp), if_pos rfl])
          clear h3
          go_enter Try.func42, Try.ntmps42
          go_wp2
          go_ret
          exact ⟨ret_eq (by rw [HR.out]; rfl), ⟨0, _, by rw [alloc_eq_grow, alloc_eq_grow, grow_grow]; rfl⟩⟩
        · have HR := Lib.hid (show idCmp ⟨xr, xs⟩ ⟨xr, ys⟩ = 1 by rw [idCmp, if_neg (by rw [HI.out]; simp; omega), if_neg (by simp [h4])])
          have h5 : (xs == ys) = false := by simpa using h4
          clear h4
          go_enter Try.func42, Try.ntmps42
          go_wp2
          go_ret
          exact ⟨ret_eq (by rw [HR.out]; rfl), ⟨0, _, by rw [alloc_eq_grow, alloc_eq_grow, grow_grow]; rfl⟩⟩
    · have HR := Lib.hid (show idCmp ⟨xr, xs⟩ ⟨yr, ys⟩ = 1 by rw [idCmp, if_neg (by rw [HI.out]; simp; omega), if_neg (by simp [h2])])
      have h3 : (xr == yr) = false := by simpa using h2
      clear h2
      go_enter Try.func42, Try.ntmps42
      go_wp2
      go_ret
      exact ⟨ret_eq (by rw [HR.out]; rfl), ⟨0, _, by rw [alloc_eq_grow, alloc_eq_grow, grow_grow]; rfl⟩⟩
def encId (x : IdD) : List Value := [.int .i64 x.rep, .int .i64 x.slot]
instance : Inhabited IdD := ⟨⟨0, 0⟩⟩
theorem ltOf_id (x y : IdD) : ltOf idCmp x y = idLt x y := by
  unfold ltOf
  cases h : idLt x y with
  | true => exact decide_eq_true (idCmp_lt.2 h)
  | false => exact decide_eq_false (fun hh => by have := idCmp_lt.1 hh; rw [h] at this; cases this)
theorem swo_id : SWO (ltOf idCmp) where
  irrefl x := by rw [ltOf_id]; exact idLt_irrefl x
  trans x y z h1 h2 := by rw [ltOf_id] at *; exact idLt_trans h1 h2
  ntrans x y z h1 h2 := by rw [ltOf_id] at *; exact idLt_ntrans h1 h2
theorem cmpLays_id (blk off size : Nat) (w : World) : CmpLays Try.prog 42 #[] encId 2 idCmp blk off size w :=
  fun _ _ _ _ x y => compareIds_exact x y _
theorem sort_ids (blk off cap : Nat) (d : Array IdD) (w : World) (hH : HoldsK encId 2 w blk off d) (hblk : blk < w.heap.size) (hsz : d.size < 4611686018427387904) :
    Calls Try.prog 84 #[.slice (some ⟨blk, off, none⟩) d.size cap, .func (.func 42) #[] #[]] w fun e w' =>
      e = .returned (.tuple #[]) ∧ ∃ d' n os, PermIn 0 d.size d d' ∧ SortedIn (ltOf idCmp) 0 d.size d' ∧ w' = sortWorldK encId 2 w blk off n d' os :=
  AnyQ.slices_SortFunc Try.sortId 2 (fun w => agg_Id.isAgg w) (fun w => agg_Id.size w) encId (fun _ => rfl) (fun x v hv => by simp [encId] at hv; rcases hv with rfl | rfl <;> rfl) idCmp swo_id 42 #[] blk off cap d w (enters_of Try.func42 (by kernel_rfl) rfl) (cmpLays_id blk off d.size w) hH hblk hsz

end Go.Proofs.Ytoffelfcmfpooaa
namespace Go.Proofs
open Go.Shelf
def Try.sortInst_ren : Go.Shelf.Ren := ⟨fun | 6 => 40 | 15 => 76 | 14 => 75 | 28 => 102 | 29 => 103 | 20 => 94 | 21 => 95 | 22 => 96 | 23 => 97 | 24 => 98 | 25 => 99 | 26 => 100 | 27 => 101 | 46 => 111 | 47 => 112 | 48 => 113 | 49 => 114 | 50 => 115 | 57 => 126 | n => n, fun | 22 => 33 | 24 => 40 | 25 => 67 | 3 => 3 | 39 => 90 | 0 => 0 | 53 => 106 | 55 => 108 | 4 => 4 | 46 => 99 | 45 => 98 | 50 => 103 | 5 => 5 | 9 => 9 | 66 => 113 | 70 => 117 | 76 => 124 | 77 => 125 | n => n, fun | n => n⟩
theorem Try.sortInst : Go.Proofs.SlLaysF0.n6 Try.prog Try.sortInst_ren := {
  mixed := by kernel_rfl
  f6 := ⟨Try.f40.name, by decide, Try.func40.trans (congrArg some (by kernel_rfl))⟩
  f14 := ⟨Try.f75.name, by decide, Try.func75.trans (congrArg some (by kernel_rfl))⟩
  f15 := Try.func76.trans (congrArg some (by kernel_rfl))
  f20 := ⟨Try.f94.name, by decide, Try.func94.trans (congrArg some (by kernel_rfl))⟩
  f21 := ⟨Try.f95.name, by decide, Try.func95.trans (congrArg some (by kernel_rfl))⟩
  f22 := ⟨Try.f96.name, by decide, Try.func96.trans (congrArg some (by kernel_rfl))⟩
  f23 := ⟨Try.f97.name, by decide, Try.func97.trans (congrArg some (by kernel_rfl))⟩
  f24 := ⟨Try.f98.name, by decide, Try.func98.trans (congrArg some (by kernel_rfl))⟩
  f25 := ⟨Try.f99.name, by decide, Try.func99.trans (congrArg some (by kernel_rfl))⟩
  f26 := ⟨Try.f100.name, by decide, Try.func100.trans (congrArg some (by kernel_rfl))⟩
  f27 := ⟨Try.f101.name, by decide, Try.func101.trans (congrArg some (by kernel_rfl))⟩
  f28 := Try.func102.trans (congrArg some (by kernel_rfl))
  f29 := Try.func103.trans (congrArg some (by kernel_rfl))
  f46 := ⟨Try.f111.name, by decide, Try.func111.trans (congrArg some (by kernel_rfl))⟩
  f47 := Try.func112.trans (congrArg some (by kernel_rfl))
  f48 := Try.func113.trans (congrArg some (by kernel_rfl))
  f49 := ⟨Try.f114.name, by decide, Try.func114.trans (congrArg some (by kernel_rfl))⟩
  f50 := ⟨Try.f115.name, by decide, Try.func115.trans (congrArg some (by kernel_rfl))⟩
  f57 := ⟨Try.f126.name, by decide, Try.func126.trans (congrArg some (by kernel_rfl))⟩
  t0 := Try.underlying0
  a0 := Try.isAgg0
  z0 := Try.sizeOf0
  v0 := Try.zeroValue0
  t3 := Try.underlying3
  a3 := Try.isAgg3
  z3 := Try.sizeOf3
  v3 := Try.zeroValue3
  t4 := Try.underlying4
  a4 := Try.isAgg4
  z4 := Try.sizeOf4
  v4 := Try.zeroValue4
  t5 := Try.underlying5
  a5 := Try.isAgg5
  z5 := Try.sizeOf5
  v5 := Try.zeroValue5
  t9 := Try.underlying9
  a9 := Try.isAgg9
  z9 := Try.sizeOf9
  v9 := Try.zeroValue9
  t22 := Try.underlying33
  a22 := Try.isAgg33
  z22 := Try.sizeOf33
  v22 := Try.zeroValue33
  t25 := Try.underlying67
  a25 := Try.isAgg67
  z25 := Try.sizeOf67
  v25 := Try.zeroValue67
  t39 := Try.underlying90
  a39 := Try.isAgg90
  z39 := Try.sizeOf90
  v39 := Try.zeroValue90
  t45 := Try.underlying98
  a45 := Try.isAgg98
  z45 := Try.sizeOf98
  v45 := Try.zeroValue98
  t46 := Try.underlying99
  a46 := Try.isAgg99
  z46 := Try.sizeOf99
  v46 := Try.zeroValue99
  t50 := Try.underlying103
  a50 := Try.isAgg103
  z50 := Try.sizeOf103
  v50 := Try.zeroValue103
  t53 := Try.underlying106
  a53 := Try.isAgg106
  z53 := Try.sizeOf106
  v53 := Try.zeroValue106
  t55 := Try.underlying108
  a55 := Try.isAgg108
  z55 := Try.sizeOf108
  v55 := Try.zeroValue108
  t66 := Try.underlying113
  a66 := Try.isAgg113
  z66 := Try.sizeOf113
  v66 := Try.zeroValue113
  t70 := Try.underlying117
  a70 := Try.isAgg117
  z70 := Try.sizeOf117
  v70 := Try.zeroValue117
  t76 := Try.underlying124
  a76 := Try.isAgg124
  z76 := Try.sizeOf124
  v76 := Try.zeroValue124
  t77 := Try.underlying125
  a77 := Try.isAgg125
  z77 := Try.sizeOf125
  v77 := Try.zeroValue125 }
end Go.Proofs
namespace Go.Proofs.Ytoffelfcmfpooaa
open Go.RowKit Go.Shelf Go.Lib Go.Sort

theorem rows_get {α : Type} [Inhabited α] (enc : α → List Value) (k : Nat) (hk0 : 0 < k) (hk : ∀ x, (enc x).length = k) : ∀ (xs : List α) (j : Nat), j < xs.length * k → (xs.flatMap enc)[j]? = some ((enc xs[j / k]!)[j % k]!)
  | [], j, h => by simp at h
  | x :: r, j, h => by
    rw [List.flatMap_cons]
    rcases Nat.lt_or_ge j k with hj | hj
    · rw [List.getElem?_append_left (by rw [hk]; exact hj), Nat.div_eq_of_lt hj, Nat.mod_eq_of_lt hj]
      simp [hk, hj]
    · obtain ⟨i, rfl⟩ : ∃ i, j = i + k := ⟨j - k, by omega⟩
      rw [List.getElem?_append_right (by rw [hk]; omega), hk, Nat.add_sub_cancel, rows_get enc k hk0 hk r i (by rw [List.length_cons, Nat.add_mul] at h; omega), Nat.add_div_right _ hk0, Nat.add_mod_right]
      rfl
theorem rows_len {α : Type} (enc : α → List Value) (k : Nat) (hk : ∀ x, (enc x).length = k) : ∀ xs : List α, (xs.flatMap enc).length = xs.length * k
  | [] => by simp
  | x :: r => by rw [List.flatMap_cons, List.length_append, hk, rows_len enc k hk r, List.length_cons, Nat.add_mul]; omega
section
variable {α : Type} [Inhabited α] {enc : α → List Value} {k e : Nat}
theorem flat_rows (hk0 : 0 < k) (hk : ∀ x, (enc x).length = k) (d : Array α) (j : Nat) (h : j < d.size * k) : (d.toList.flatMap enc)[j]? = some ((flatK enc k d)[j]!) := by
  rw [rows_get enc k hk0 hk _ _ (by simpa using h), get_flatK _ _ _ _ h]
  have e : d.toList[j / k]! = d[j / k]! := by
    have hj : j / k < d.size := Nat.div_lt_of_lt_mul (by rw [Nat.mul_comm]; exact h)
    rw [List.getElem!_eq_getElem?_getD, getElem!_pos d (j / k) hj]
    simp [hj]
  rw [e]
theorem holds_ownK (hk0 : 0 < k) (hk : ∀ x, (enc x).length = k) {w : World} {base g n c : Nat} {d : Array α} (h : w.ownsRow base e k (.slice (some ⟨g, 0, none⟩) n c) n (d.toList.flatMap enc)) : HoldsK enc k w g 0 d := by
  intro j hj
  rw [size_flatK] at hj
  refine ⟨?_, ?_⟩
  · have := World.ownsRow.cells (g := g) h rfl j _ (flat_rows hk0 hk d j hj)
    rw [add_plain, Nat.zero_add] at this
    rw [Nat.zero_add]
    exact this
  · rw [Nat.zero_add]
    exact h.frozenAt j
theorem own_putK (hk0 : 0 < k) (hk : ∀ x, (enc x).length = k) {w : World} {base g n c : Nat} {xs : List Value} {d : Array α} (hn : n = d.size) (h : w.ownsRow base e k (.slice (some ⟨g, 0, none⟩) n c) n xs) :
    (putRowK enc k w g 0 d).ownsRow base e k (.slice (some ⟨g, 0, none⟩) n c) n (d.toList.flatMap enc) := by
  refine ⟨by rw [rows_len enc k hk]; simp [hn], ?_⟩
  rcases h.2 with ⟨h0, _⟩ | ⟨g', cap, cur, hv, hb, hh, hnc, hcm, hcs, _⟩
  · cases h0
  · injection hv with e1 e2 e3
    injection e1 with e1
    injection e1 with e1
    subst e1 e3
    refine .inr ⟨g, c, putCells id 0 (flatK enc k d) cur, rfl, hb, ?_, hnc, hcm, by simp [putCells, hcs], ?_⟩
    · show ((w.heap.modify g (onCells (putCells id 0 (flatK enc k d)))))[g]? = _
      rw [Array.getElem?_modify, if_pos rfl, hh]
      rfl
    · apply List.ext_getElem?
      intro j
      by_cases hj : j < n * k
      · rw [flat_rows hk0 hk d j (by rw [← hn]; exact hj), List.getElem?_take_of_lt hj]
        have hjc : j < cur.size := by rw [hcs]; have := Nat.mul_le_mul_right k hnc; omega
        simp only [putCells, Array.getElem?_toList, Array.getElem?_mapIdx, Array.getElem?_eq_getElem hjc, Option.map_some]
        rw [if_pos (by simp; rw [← hn]; exact hj)]
        simp
      · rw [List.getElem?_eq_none (by simp; omega), List.getElem?_eq_none (by rw [rows_len enc k hk]; simp; rw [← hn]; omega)]
theorem own_sortedK (hk0 : 0 < k) (hk : ∀ x, (enc x).length = k) {w : World} {base g n c m : Nat} {xs : List Value} {d : Array α} {os : Array Obj} (hn : n = d.size) (hg : g < w.heap.size) (h : w.ownsRow base e k (.slice (some ⟨g, 0, none⟩) n c) n xs) :
    (sortWorldK enc k w g 0 m d os).ownsRow base e k (.slice (some ⟨g, 0, none⟩) n c) n (d.toList.flatMap enc) ∧ w.grownBy (sortWorldK enc k w g 0 m d os) (some g) := by
  have h1 : (putRowK enc k (Sort.ahead w m) g 0 d).ownsRow base e k (.slice (some ⟨g, 0, none⟩) n c) n (d.toList.flatMap enc) := own_putK hk0 hk hn h
  have hsz : (putRowK enc k (Sort.ahead w m) g 0 d).heap.size = w.heap.size := by simp [putRowK, putRow, mapBlock, Sort.ahead]
  have hap : ∀ b, b < w.heap.size → (sortWorldK enc k w g 0 m d os).heap[b]? = (putRowK enc k (Sort.ahead w m) g 0 d).heap[b]? := fun b hb => by
    show ((putRowK enc k (Sort.ahead w m) g 0 d).heap ++ os)[b]? = _
    rw [Array.getElem?_append_left (by rw [hsz]; exact hb)]
  refine ⟨ownsRow_keep h1 (fun b hk => ⟨(h1.lt b hk).1, hap b (by rw [← hsz]; exact (h1.lt b hk).2)⟩), ⟨rfl, rfl, rfl, ?_, fun b hb hne => ?_⟩⟩
  · show w.heap.size ≤ ((putRowK enc k (Sort.ahead w m) g 0 d).heap ++ os).size
    rw [Array.size_append, hsz]; omega
  · rw [hap b hb]
    show (w.heap.modify g _)[b]? = _
    rw [Array.getElem?_modify, if_neg (fun e => hne (congrArg some e.symm))]
end
/-- an instance's cells, raw: its Id and what stands behind -/
structure RawI where
  id : IdD
  rest : List Value
  hl : rest.length = 14
  h1 : ∀ u ∈ rest, u.oneCell' = true
def RawI.enc (x : RawI) : List Value := .int .i64 x.id.rep :: .int .i64 x.id.slot :: x.rest
theorem RawI.enc_len (x : RawI) : x.enc.length = 16 := by simp [RawI.enc, x.hl]
instance : Inhabited RawI := ⟨⟨⟨0, 0⟩, List.replicate 14 (.int .i64 0), by simp, by intro u hu; rw [(List.mem_replicate.1 hu).2]; rfl⟩⟩
def rawCmp (x y : RawI) : Int := idCmp x.id y.id
theorem ltOf_raw (x y : RawI) : ltOf rawCmp x y = idLt x.id y.id := ltOf_id x.id y.id
theorem swo_raw : SWO (ltOf rawCmp) where
  irrefl x := by rw [ltOf_raw]; exact idLt_irrefl x.id
  trans x y z h1 h2 := by rw [ltOf_raw] at *; exact idLt_trans h1 h2
  ntrans x y z h1 h2 := by rw [ltOf_raw] at *; exact idLt_ntrans h1 h2
theorem raw_of {w : World} {base : Nat} : ∀ {xs : List InstD} {cells : List Value} {F : List Nat}, Own w base (cat InstD.c xs) cells F → ∃ d : List RawI, cells = d.flatMap RawI.enc ∧ d.map RawI.id = xs.map InstD.id
  | [], cells, F, h => ⟨[], (Own.nil.1 h).1, rfl⟩
  | x :: xs, cells, F, h => by
    rw [cat_cons] at h
    obtain ⟨c1, c2, F1, F2, rfl, rfl, h1, h2⟩ := Own.app.1 h
    obtain ⟨d, rfl, hd⟩ := raw_of h2
    have hl : c1.length = 16 := h1.length.trans (InstD.width x)
    have h16 := h1.one
    obtain ⟨A0, k0, A1, k1, hc, _, _⟩ := InstD.open h1.repAny
    refine ⟨⟨x.id, c1.drop 2, by rw [List.length_drop, hl], fun u hu => h16 u (List.mem_of_mem_drop hu)⟩ :: d, ?_, by rw [List.map_cons, List.map_cons, hd]⟩
    rw [List.flatMap_cons]
    congr 1
    subst hc
    rfl
theorem raw_perm {w : World} {base : Nat} {d d' : List RawI} (hp : d.Perm d') : ∀ {xs : List InstD} {F : List Nat}, d.map RawI.id = xs.map InstD.id → Own w base (cat InstD.c xs) (d.flatMap RawI.enc) F →
    ∃ ys F', ys.Perm xs ∧ F'.Perm F ∧ d'.map RawI.id = ys.map InstD.id ∧ Own w base (cat InstD.c ys) (d'.flatMap RawI.enc) F' := by
  induction hp with
  | nil => intro xs F he ho; exact ⟨xs, F, .refl _, .refl _, he, ho⟩
  | cons a _ ih =>
    intro xs F he ho
    cases xs with
    | nil => cases he
    | cons x xs =>
      rw [List.map_cons, List.map_cons] at he
      injection he with he1 he2
      rw [cat_cons, List.flatMap_cons] at ho
      obtain ⟨c1, c2, F1, F2, hc, rfl, o1, o2⟩ := Own.app.1 ho
      have hl : c1.length = a.enc.length := by rw [a.enc_len]; exact o1.length.trans (InstD.width x)
      obtain ⟨rfl, rfl⟩ := List.append_inj hc hl.symm
      obtain ⟨ys, F', p1, p2, e, o⟩ := ih he2 o2
      refine ⟨x :: ys, F1 ++ F', p1.cons _, p2.append_left _, by rw [List.map_cons, List.map_cons, he1, e], ?_⟩
      rw [cat_cons, List.flatMap_cons]
      exact Own.app.2 ⟨_, _, _, _, rfl, rfl, o1, o⟩
  | swap a b l =>
    intro xs F he ho
    match xs, he, ho with
    | [], he, _ => cases he
    | [_], he, _ => simp at he
    | x :: y :: xs, he, ho =>
      simp only [List.map_cons, List.cons.injEq] at he
      rw [cat_cons, cat_cons, List.flatMap_cons, List.flatMap_cons] at ho
      obtain ⟨c1, c2, F1, F2, hc, rfl, o1, o2⟩ := Own.app.1 ho
      have hl : c1.length = b.enc.length := by rw [b.enc_len]; exact o1.length.trans (InstD.width x)
      obtain ⟨rfl, rfl⟩ := List.append_inj hc hl.symm
      obtain ⟨c3, c4, F3, F4, hc, rfl, o3, o4⟩ := Own.app.1 o2
      have hl : c3.length = a.enc.length := by rw [a.enc_len]; exact o3.length.trans (InstD.width y)
      obtain ⟨rfl, rfl⟩ := List.append_inj hc hl.symm
      refine ⟨y :: x :: xs, F3 ++ (F1 ++ F4), .swap _ _ _, ?_, by simp [he.1, he.2.1, he.2.2], ?_⟩
      · rw [← List.append_assoc, ← List.append_assoc]
        exact List.perm_append_comm.append_right _
      · rw [cat_cons, cat_cons, List.flatMap_cons, List.flatMap_cons]
        exact Own.app.2 ⟨_, _, _, _, rfl, rfl, o3, Own.app.2 ⟨_, _, _, _, rfl, rfl, o1, o4⟩⟩
  | trans _ _ ih1 ih2 =>
    intro xs F he ho
    obtain ⟨ys, F', p1, p2, e, o⟩ := ih1 he ho
    obtain ⟨zs, F'', p3, p4, e2, o2⟩ := ih2 e o
    exact ⟨zs, F'', p3.trans p1, p4.trans p2, e2, o2⟩
theorem list14 {cs : List Value} (h : cs.length = 14) : ∃ v2 v3 v4 v5 v6 v7 v8 v9 v10 v11 v12 v13 v14 v15, cs = [v2, v3, v4, v5, v6, v7, v8, v9, v10, v11, v12, v13, v14, v15] := by
  match cs, h with
  | [v2, v3, v4, v5, v6, v7, v8, v9, v10, v11, v12, v13, v14, v15], _ => exact ⟨_, _, _, _, _, _, _, _, _, _, _, _, _, _, rfl⟩
set_option maxRecDepth 100000 in
set_option maxHeartbeats 2000000 in
theorem putFn_exact (x y : RawI) (w : World) :
    Calls Try.prog 41 #[.agg x.enc.toArray, .agg y.enc.toArray] w fun e w' => e = .returned (.int .i64 (rawCmp x y)) ∧ ∃ (q : Nat) (os' : Array Obj), w' = grow (w.drewN q) os' := by
  have hX : Blk (w.alloc (.cells x.enc.toArray 40)) w.heap.size 40 x.enc.toArray := blk_new _ _ _
  have hY : Blk ((w.alloc (.cells x.enc.toArray 40)).alloc (.cells y.enc.toArray 40)) (w.heap.size + 1) 40 y.enc.toArray := by
    have := blk_new (w.alloc (.cells x.enc.toArray 40)) y.enc.toArray 40
    simpa using this
  have idc : ∀ (z : RawI) (v : World) (g : Nat), Blk v g 40 z.enc.toArray → ∀ j u, [Value.int .i64 z.id.rep, .int .i64 z.id.slot][j]? = some u → v.cell? ((⟨g, 0, none⟩ : Addr).add j) = some u := fun z v g hb j u hu => by
    refine blk_cells hb j u ?_
    match j, hu with
    | 0, hu => exact hu
    | 1, hu => exact hu
    | j + 2, hu => simp at hu
  have HXC := Lib.hid (idc x _ _ (hX.alloc (.cells y.enc.toArray 40)))
  have HYC := Lib.hid (idc y _ _ hY); clear hX hY idc
  have HCMP := Lib.hid (fun W => compareIds_exact x.id y.id W)
  have HR := Lib.hid (show rawCmp x y = idCmp x.id y.id from rfl)
  generalize rawCmp x y = R at *
  generalize idCmp x.id y.id = R2 at *
  obtain ⟨⟨xr, xs⟩, lx, hlx, h1x⟩ := x
  obtain ⟨⟨yr, ys⟩, ly, hly, h1y⟩ := y
  obtain ⟨x2, x3, x4, x5, x6, x7, x8, x9, x10, x11, x12, x13, x14, x15, rfl⟩ := list14 hlx
  obtain ⟨y2, y3, y4, y5, y6, y7, y8, y9, y10, y11, y12, y13, y14, y15, rfl⟩ := list14 hly
  simp only [RawI.enc] at HXC HYC HCMP ⊢
  clear h1x h1y hlx hly
  go_enter Try.func41, Try.ntmps41
  go_wp2_with (first
    | ((with_reducible show wpList _ _ _ ({ dst := _, op := Op.load 36 _, type := _, pos := _, after := _, guard := _ } :: _) _ _); first | refine wpList_load_row _ ⟨w.heap.size, 0, none⟩ rfl [.int .i64 xr, .int .i64 xs] agg_Id rfl HXC.out ?_ | refine wpList_load_row _ ⟨w.heap.size + 1, 0, none⟩ rfl [.int .i64 yr, .int .i64 ys] agg_Id rfl HYC.out ?_)
    | fail)
  refine (HCMP.out _).mono ?_
  rintro e w' ⟨rfl, q, os', rfl⟩
  go_wp2
  go_ret
  exact ⟨ret_eq (by rw [HR.out]; rfl), q, _, by rw [alloc_eq_grow, alloc_eq_grow, grow_grow]; exact (show grow (grow (w.drewN q) _) os' = _ from grow_grow _ _ _)⟩
theorem sort_instsR (blk off cap : Nat) (d : Array RawI) (w : World) (hH : HoldsK RawI.enc 16 w blk off d) (hblk : blk < w.heap.size) (hsz : d.size < 4611686018427387904) :
    Calls Try.prog 40 #[.slice (some ⟨blk, off, none⟩) d.size cap, .func (.func 41) #[] #[]] w fun e w' =>
      e = .returned (.tuple #[]) ∧ ∃ d' n os, PermIn 0 d.size d d' ∧ SortedIn (ltOf rawCmp) 0 d.size d' ∧ w' = sortWorldK RawI.enc 16 w blk off n d' os :=
  AnyQ.slices_SortFunc Try.sortInst 16 (fun w => agg_Inst.isAgg w) (fun w => agg_Inst.size w) RawI.enc RawI.enc_len (fun x v hv => by
    simp only [RawI.enc, List.mem_cons] at hv
    rcases hv with rfl | rfl | hv
    · rfl
    · rfl
    · exact x.h1 v hv) rawCmp swo_raw 41 #[] blk off cap d w (enters_of Try.func41 (by kernel_rfl) rfl) (fun _ _ _ _ x y => putFn_exact x y _) hH hblk hsz
theorem sort_insts (base g n c : Nat) (xs : List InstD) (w : World) (hn : n = xs.length) (hn1 : n ≤ 4194304) (h : Mine w base (.sl 40 16 n (cat InstD.c xs) .nil) [.slice (some ⟨g, 0, none⟩) n c]) :
    Calls Try.prog 40 #[.slice (some ⟨g, 0, none⟩) n c, .func (.func 41) #[] #[]] w fun e w' =>
      e = .returned (.tuple #[]) ∧ ∃ ys : List InstD, ys.Perm xs ∧ ys.Pairwise (fun a b => idLt b.id a.id = false) ∧ Mine w' base (.sl 40 16 n (cat InstD.c ys) .nil) [.slice (some ⟨g, 0, none⟩) n c] ∧ w.grownBy w' (some g) := by
  obtain ⟨cells, F, hr, ho, hnd, hw⟩ := mine_open h
  obtain ⟨d, rfl, hd⟩ := raw_of ho
  have hdl : d.length = xs.length := by have := congrArg List.length hd; simpa using this
  have hg := (hr.lt g rfl).2
  have hH : HoldsK RawI.enc 16 w g 0 d.toArray := holds_ownK (by decide) RawI.enc_len (base := base) (e := 40) (n := n) (c := c) (by simpa using hr)
  have hc := sort_instsR g 0 c d.toArray w hH hg (by simp; omega)
  simp only [List.size_toArray] at hc
  rw [hdl, ← hn] at hc
  refine hc.mono ?_
  rintro e w' ⟨rfl, d', m, os, hp, hs, rfl⟩
  have hsz : d'.size = d.length := by have := hp.1; simpa using this
  have hperm : d.Perm d'.toList := by
    have := hp.2.2
    rw [show d'.extract 0 n = d' from by rw [hn, ← hdl, ← hsz]; simp, show d.toArray.extract 0 n = d.toArray from by rw [hn, ← hdl]; simp] at this
    simpa using this.symm
  obtain ⟨ys, F', p1, p2, e2, o2⟩ := raw_perm hperm hd ho
  have hso := own_sortedK (by decide) RawI.enc_len (m := m) (os := os) (d := d') (by omega) hg hr
  have hF : (Value.slice (some ⟨g, 0, none⟩) n c).ownBlock.toList ++ F' |>.Nodup := ((p2.append_left _).nodup_iff).2 hnd
  have hgF : ∀ b ∈ F', ¬ b = g := fun b hb e => by
    subst e
    have : b ∉ F' := by
      have := hF
      simp [Value.ownBlock] at this
      exact this.1
    exact this hb
  refine ⟨rfl, ys, p1, ?_, ⟨_, hF, Own.sl1.2 ⟨_, F', rfl, ?_, hso.1, ?_⟩⟩, hso.2⟩
  · have hs2 : d'.toList.Pairwise (fun a b => idLt b.id a.id = false) := by
      refine List.pairwise_iff_getElem.2 fun i j hi hj hij => ?_
      have := hs i j (Nat.zero_le _) hij (by rw [hn, ← hdl, ← hsz]; simpa using hj)
      rw [ltOf_raw] at this
      have e1 : d'[i]! = d'.toList[i] := by rw [getElem!_pos d' i (by simpa using hi)]; simp
      have e2 : d'[j]! = d'.toList[j] := by rw [getElem!_pos d' j (by simpa using hj)]; simp
      rw [e1, e2] at this
      exact this
    have h3 : (d'.toList.map RawI.id).Pairwise (fun a b => idLt b a = false) := List.pairwise_map.2 hs2
    rw [e2] at h3
    exact List.pairwise_map.1 h3
  · rw [cat_width InstD.width, p1.length_eq, ← hn]
  · exact o2.keep (fun b hb => hso.2.block b (o2.in b hb).2 (fun e => hgF b hb (by injection e)))

end Go.Proofs.Ytoffelfcmfpooaa
namespace Go.Proofs.Ytoffelfcmfpooaa
open Go.RowKit
theorem grown_below {a b c : World} {g : Nat} (h : Below a.heap.size a b) (k : b.grownBy c (some g)) : a.grownBy c (some g) :=
  ⟨k.os.trans h.os, k.tape.trans h.tape, k.output.trans h.output, Nat.le_trans h.size k.size, fun i hi hne => (k.block i (Nat.lt_of_lt_of_le hi h.size) hne).trans (h.block i hi)⟩

set_option maxRecDepth 100000 in
set_option maxHeartbeats 8000000 in
theorem iInstPut_any (xs : List InstD) (x : InstD) (A : Option Addr) (n c : Nat) (cs : List Value) (w : World) (hn : n = xs.length) (hwt : n + (cat InstD.c xs).wt ≤ 1048576) (hwx : x.c.wt ≤ 1048576) (h : Rep anyB w (.sl 40 16 n (cat InstD.c xs) .nil) [.slice A n c]) (h' : Rep anyB w x.c cs) :
    Calls Try.prog 11 #[.slice A n c, .agg cs.toArray] w fun e w' => ∃ A2 m c2, e = .returned (.slice A2 m c2) ∧ m = (fInstPut xs x).length ∧ Mine w' w.heap.size (.sl 40 16 m (cat InstD.c (fInstPut xs x)) .nil) [.slice A2 m c2] ∧ Below w.heap.size w w' := by
  have HL := Lib.hid (show cs.length = 16 from h'.length.trans (InstD.width x))
  have hxid := fun (v : World) (hb : Blk v w.heap.size 40 cs.toArray) => id_cells h' (blk_cells hb)
  have HXI := Lib.hid hxid; clear hxid
  obtain ⟨R, hR⟩ : ∃ R, R = fInstPut xs x := ⟨_, rfl⟩
  rw [← hR]
  have HRF := Lib.hid hR; clear hR
  have HX := Lib.hid h'; clear h'
  have HR := Lib.hid h; clear h
  have HN := Lib.hid hn; clear hn
  have HW := Lib.hid (fun y (hy : y ∈ xs) => show (y.c).wt ≤ 1048576 by have := cat_wt_le (f := InstD.c) hy; omega)
  have HWT := Lib.hid hwt
  have hn1 : n ≤ 1048576 := by omega
  clear hwt
  have HBX := Lib.hid (blk_new w cs.toArray 40)
  have BW := Lib.hid (show Below w.heap.size w (w.alloc (.cells cs.toArray 40)) from (by repeat' (first | with_reducible exact Below.refl _ _ | with_reducible exact BW.out | with_reducible refine Below.setCell ?_ ?_ _ | with_reducible refine Below.alloc ?_ ?_ _ | with_reducible refine Below.drew ?_ | (simp; done) | (simp; omega) | omega)))
  go_enter Try.func11, Try.ntmps11
  go_wp2_with fail
  refine (iInstsOk_any xs A n c _ HN.out HWT.out (HR.out.below BW.out)).mono ?_; rintro e v1 ⟨rfl, hb⟩
  have X := Lib.hid (HBX.out.below hb); clear HBX
  have HBX := Lib.hid X.out; clear X
  have X := Lib.hid (BW.out.trans (hb.mono BW.out.size)); clear BW hb
  have BW := Lib.hid X.out; clear X
  cases hok : instsOkB xs with
  | false =>
    obtain rfl : R = [] := by rw [HRF.out, fInstPut, if_neg (by simp [hok])]
    go_wp2
    go_ret
    exact ⟨_, _, _, rfl, rfl, mine_row0 _, BW.out⟩
  | true =>
    have HF := Lib.hid (show R = if instOkB x = true then fPut xs x else xs by rw [HRF.out, fInstPut, if_pos hok])
    go_wp2_with fail
    refine (copyInsts_any xs A n c _ HN.out (by omega) HW.out (HR.out.below BW.out)).mono ?_; rintro e v2 ⟨A2, c2, rfl, hm, hb⟩
    have HM0 := Lib.hid (hm.mono BW.out.size); clear hm
    have X := Lib.hid (HBX.out.below hb); clear HBX
    have HBX := Lib.hid X.out; clear X
    have X := Lib.hid (BW.out.trans (hb.mono BW.out.size)); clear BW hb
    have BW := Lib.hid X.out; clear X
    go_wp2_with (first | ((with_reducible show wpList _ _ _ ({ dst := _, op := Op.load 36 _, type := _, pos := _, after := _, guard := _ } :: _) _ _); refine wpList_load_row _ ⟨w.heap.size, 0, none⟩ rfl [.int .i64 _, .int .i64 _] agg_Id rfl (HXI.out _ HBX.out) ?_) | fail)
    refine (instAtI_any xs x.id A n c _ _ HN.out hn1 (HR.out.below BW.out) (id_shut _ _)).mono ?_; rintro e v3 ⟨q, rfl, hq, hb⟩
    have X := Lib.hid (HBX.out.below hb); clear HBX
    have HBX := Lib.hid X.out; clear X
    have X := Lib.hid (HM0.out.below hb); clear HM0
    have HM0 := Lib.hid X.out; clear X
    have X := Lib.hid (BW.out.trans (hb.mono BW.out.size)); clear BW
    have BW := Lib.hid X.out; clear X
    clear hb
    rcases hq with ⟨j, hjx, rfl, he, _⟩ | ⟨rfl, hall⟩
    · have HE := Lib.hid he; clear he
      have hjn : j < n := by have := HN.out; omega
      go_wp2_with (first | ((with_reducible show wpList _ _ _ ({ dst := _, op := Op.load 40 _, type := _, pos := _, after := _, guard := _ } :: _) _ _); refine wpList_load_row _ ⟨w.heap.size, 0, none⟩ rfl cs agg_Inst HL.out (blk_cells HBX.out) ?_) | fail)
      refine (copyInst_any x cs _ hwx (HX.out.below BW.out)).mono ?_; rintro e v4 ⟨cs', rfl, ⟨F', n', o'⟩, hb⟩
      have HL2 := Lib.hid (show cs'.length = 16 from o'.length.trans (InstD.width _))
      obtain ⟨F0, hnd0, hown0⟩ := HM0.out
      obtain ⟨g, rfl, hF0⟩ : ∃ g, A2 = some ⟨g, 0, none⟩ ∧ w.heap.size ≤ g := by
        obtain ⟨cells, F1, _, _, hr, _⟩ := Own.sl1.1 hown0
        rcases hr.2 with ⟨_, h0⟩ | ⟨g, cap, cur, hv, hb, _⟩
        · omega
        · injection hv with e1; exact ⟨g, e1, hb⟩
      have HGB := Lib.hid hF0; clear hF0
      have hsp := set_split xs j hjx x
      have hown1 := hown0
      rw [hsp.1] at hown1
      obtain ⟨c1, c2', c3, spare, hl1, hl2, _, hblk, hclose⟩ := own_swap InstD.width hown1 hnd0
      have hinlt := fun b (hb2 : b ∈ F0) => (hown0.in b hb2).2
      have hlen : (xs.take j).length = j := by rw [List.length_take, Nat.min_eq_left (Nat.le_of_lt hjx)]
      rw [hlen] at hl1
      have hclose2 := fun w' hgr hbb => hclose w' x cs' F' (show Own w' w.heap.size x.c cs' F' from hgr) n' hbb
      clear hclose hown1 hown0 hnd0
      have hgl := hblk.lt
      have KB := Lib.hid (hblk.below hb); clear hblk
      have KL1 := Lib.hid hl1; clear hl1
      have KL2 := Lib.hid hl2; clear hl2 hlen
      have KO := Lib.hid (o'.mono BW.out.size)
      have KD := Lib.hid (fun b (hb2 : b ∈ F') (h3 : b ∈ F0) => by have h4 := (o'.in b hb2).1; have h5 := hinlt b h3; omega : ∀ b ∈ F', b ∉ F0); clear hinlt
      have KG := Lib.hid (show ∀ b ∈ F', b ≠ g from fun b hb2 e => by have h4 := (o'.in b hb2).1; omega)
      have KC := Lib.hid hclose2; clear hclose2
      have KW := Lib.hid hb.size
      have KBV := Lib.hid hb
      have X := Lib.hid (BW.out.trans (hb.mono BW.out.size)); clear BW
      have BW := Lib.hid X.out; clear X
      have KO1 := Lib.hid o'.one
      have KP := Lib.hid hsp.2; clear hsp o' n' hb HM0
      go_wp2_with (first | ((with_reducible show wpList _ _ _ ({ dst := _, op := Op.store 40 _ _, type := _, pos := _, after := _, guard := _ } :: _) _ _); go_must (refine wpList_store_row _ g 40 (j * 16) cs' c1 c2' (c3 ++ spare) _ rfl rfl (HL2.out ▸ agg_Inst) KB.out rfl KL1.out (by rw [KL2.out, HL2.out]) KO1.out ?_; intro v5 h5 g5; have K5 := Lib.hid h5; have G5 := Lib.hid g5; clear h5 g5)) | fail)
      have X := Lib.hid (KO.out.keep (fun b hb2 => G5.out.block b (KO.out.in b hb2).2 (fun e => KG.out b hb2 (by injection e)))); clear KO
      have KO := Lib.hid X.out; clear X
      have hm5 := KC.out v5 KO.out KD.out (grown_below KBV.out G5.out) (by simpa using K5.out)
      rw [← KP.out] at hm5
      have HM := Lib.hid hm5; clear hm5
      have X := Lib.hid (Below.grown BW.out G5.out BW.out.size (fun k hk => by injection hk with hk; have := HGB.out; omega)); clear BW
      have BW := Lib.hid X.out; clear X
      have HML := Lib.hid (show n = (xs.set j x).length ∧ n ≤ n + 1 from ⟨by rw [List.length_set]; exact HN.out, by omega⟩)
      clear KO KC KD K5 G5 KB KL1 KL2 KBV KP KG KO1 KW HL2 HBX HXI
      go_wp2_with fail
      refine (sort_insts w.heap.size g n c2 (xs.set j x) _ HML.out.1 (by have h1 := HML.out.2; omega) HM.out).mono ?_
      rintro e v5 ⟨rfl, ys, hperm, hsort, hm5, hg5⟩
      have hgb := (HM.out.rep)
      have hys : ys = fPut xs x := put_sorted (insts_asc hok) (.inl ⟨j, hjx, HE.out, rfl⟩) hperm hsort
      subst hys
      have HML2 := Lib.hid (show n = (fPut xs x).length from by rw [hperm.length_eq]; exact HML.out.1)
      have HM5 := Lib.hid hm5; clear hm5 hperm hsort hgb
      have X := Lib.hid (BW.out.grown hg5 BW.out.size (fun k hk => by injection hk with hk; have := HGB.out; omega)); clear BW
      have BW := Lib.hid X.out; clear X
      clear hg5
      go_wp2_with fail
      refine (iInstsOk_all (fPut xs x) (some ⟨g, 0, none⟩) n c2 _ HML2.out (by have h1 := HML.out.2; omega) (put_wt HW.out hwx) HM5.out.rep.any).mono ?_; rintro e v6 ⟨rfl, hb⟩
      have X := Lib.hid (HM5.out.below hb); clear HM5
      have HM5 := Lib.hid X.out; clear X
      have X := Lib.hid (BW.out.trans (hb.mono BW.out.size)); clear BW
      have BW := Lib.hid X.out; clear X
      clear hb
      rw [put_ok hok]
      cases hox : instOkB x with
      | false =>
        obtain rfl : xs = R := by rw [HF.out, if_neg (by simp [hox])]
        clear HF HRF
        go_wp2_with fail
        refine (copyInsts_any xs A n c _ HN.out (by omega) HW.out (HR.out.below BW.out)).mono ?_; rintro e v7 ⟨A2, c2, rfl, hm, hb⟩
        have HM7 := Lib.hid (hm.mono BW.out.size); clear hm
        have X := Lib.hid (BW.out.trans (hb.mono BW.out.size)); clear BW
        have BW := Lib.hid X.out; clear X
        clear hb
        go_wp2
        go_ret
        exact ⟨_, _, _, rfl, HN.out, HM7.out, BW.out⟩
      | true =>
        obtain rfl : R = fPut xs x := by rw [HF.out, if_pos hox]
        clear HF HRF
        go_wp2
        go_ret
        exact ⟨_, _, _, rfl, HML2.out, HM5.out, BW.out⟩
    · have HAL := Lib.hid (show ∀ y ∈ xs, ¬ y.id = x.id from fun y hy => by obtain ⟨i, hi, rfl⟩ := List.getElem_of_mem hy; exact hall i hi); clear hall
      obtain ⟨cells, F, hr0, ho0, hnd0, _⟩ := mine_open HM0.out
      have LT0 := Lib.hid (mine_open_lt hr0 ho0)
      have R0 := Lib.hid hr0; clear hr0
      have O0 := Lib.hid ho0; clear ho0
      have N0 := Lib.hid hnd0; clear hnd0 HM0
      go_wp2_with (first | ((with_reducible show wpList _ _ _ ({ dst := _, op := Op.load 40 _, type := _, pos := _, after := _, guard := _ } :: _) _ _); refine wpList_load_row _ ⟨w.heap.size, 0, none⟩ rfl cs agg_Inst HL.out (blk_cells HBX.out) ?_) | fail)
      refine (copyInst_any x cs _ hwx (HX.out.below BW.out)).mono ?_; rintro e v4 ⟨cs', rfl, ⟨F', n', o'⟩, hb⟩
      have HL2 := Lib.hid (show cs'.length = 16 from o'.length.trans (InstD.width _))
      have KD := Lib.hid (show ∀ b ∈ F', b ∉ (Value.slice A2 n c2).ownBlock.toList ++ F from fun b hb2 h3 => by have h4 := (o'.in b hb2).1; have h5 := LT0.out b h3; omega)
      have KO := Lib.hid (o'.mono BW.out.size); clear o'
      have N1 := Lib.hid n'; clear n'
      have X := Lib.hid (R0.out.keptBelowJ hb); clear R0
      have R0 := Lib.hid X.out; clear X
      have X := Lib.hid (O0.out.below hb); clear O0
      have O0 := Lib.hid X.out; clear X
      have X := Lib.hid (BW.out.trans (hb.mono BW.out.size)); clear BW
      have BW := Lib.hid X.out; clear X
      clear hb LT0
      go_wp2_with (first
        | ((with_reducible show wpList _ _ _ ({ dst := _, op := Op.buildSlice _ _ _, type := _, pos := _, after := _, guard := _ } :: _) _ _); go_must (refine wpList_build1 rfl (.tmp 25) rfl cs' HL2.out rfl ?_))
        | (at_builtin; go_must (refine wpList_app E_Inst _ rfl (.tmp 23) (.tmp 26) rfl w.heap.size _ n cells rfl (R0.out.alloc _) _ _ _ _ rfl (Reads.new (e := 40) (by simp [HL2.out])) KO.out.one (by omega) (by have h1 := BW.out.size; simp; omega) ?_; intro v' v5 hown5 hg5 hat5; have hgb := (R0.out.lt); obtain ⟨g, cap, rfl, hF0⟩ : ∃ g cap, v' = .slice (some ⟨g, 0, none⟩) (n + 1) cap ∧ w.heap.size ≤ g := hown5.2.elim (fun h0 => absurd h0.2 (by omega)) (fun ⟨g, cap, cur, hv, hb, _⟩ => ⟨g, cap, hv, hb⟩); have HGB := Lib.hid hF0; clear hF0; have HM := Lib.hid (show Mine v5 w.heap.size (.sl 40 16 (n + 1) (cat InstD.c (xs ++ [x])) .nil) [.slice (some ⟨g, 0, none⟩) (n + 1) cap] from row_app HN.out InstD.width (O0.out.below ((Below.refl _ _).alloc (Nat.le_refl _) _)) N0.out (KO.out.below ((Below.refl _ _).alloc (Nat.le_refl _) _)) N1.out KD.out hown5 hg5 hat5); have X := Lib.hid (show Below w.heap.size w v5 from Below.grown (BW.out.alloc BW.out.size _) hg5 (by have h1 := BW.out.size; simp; omega) (fun k hk => (hgb k hk).1)); clear BW; have BW := Lib.hid X.out; clear X; clear hown5 hg5 hat5 hgb))
        | fail)
      have HML := Lib.hid (show n + 1 = (xs ++ [x]).length ∧ n + 1 ≤ n + 1 from ⟨by rw [List.length_append, HN.out]; rfl, Nat.le_refl _⟩)
      clear KO KD N0 N1 O0 R0 HL2 HBX HXI
      go_wp2_with fail
      refine (sort_insts w.heap.size g (n + 1) cap (xs ++ [x]) _ HML.out.1 (by have h1 := HML.out.2; omega) HM.out).mono ?_
      rintro e v5 ⟨rfl, ys, hperm, hsort, hm5, hg5⟩
      have hgb := (HM.out.rep)
      have hys : ys = fPut xs x := put_sorted (insts_asc hok) (.inr ⟨HAL.out, rfl⟩) hperm hsort
      subst hys
      have HML2 := Lib.hid (show (n + 1) = (fPut xs x).length from by rw [hperm.length_eq]; exact HML.out.1)
      have HM5 := Lib.hid hm5; clear hm5 hperm hsort hgb
      have X := Lib.hid (BW.out.grown hg5 BW.out.size (fun k hk => by injection hk with hk; have := HGB.out; omega)); clear BW
      have BW := Lib.hid X.out; clear X
      clear hg5
      go_wp2_with fail
      refine (iInstsOk_all (fPut xs x) (some ⟨g, 0, none⟩) (n + 1) cap _ HML2.out (by have h1 := HML.out.2; omega) (put_wt HW.out hwx) HM5.out.rep.any).mono ?_; rintro e v6 ⟨rfl, hb⟩
      have X := Lib.hid (HM5.out.below hb); clear HM5
      have HM5 := Lib.hid X.out; clear X
      have X := Lib.hid (BW.out.trans (hb.mono BW.out.size)); clear BW
      have BW := Lib.hid X.out; clear X
      clear hb
      rw [put_ok hok]
      cases hox : instOkB x with
      | false =>
        obtain rfl : xs = R := by rw [HF.out, if_neg (by simp [hox])]
        clear HF HRF
        go_wp2_with fail
        refine (copyInsts_any xs A n c _ HN.out (by omega) HW.out (HR.out.below BW.out)).mono ?_; rintro e v7 ⟨A2, c2, rfl, hm, hb⟩
        have HM7 := Lib.hid (hm.mono BW.out.size); clear hm
        have X := Lib.hid (BW.out.trans (hb.mono BW.out.size)); clear BW
        have BW := Lib.hid X.out; clear X
        clear hb
        go_wp2
        go_ret
        exact ⟨_, _, _, rfl, HN.out, HM7.out, BW.out⟩
      | true =>
        obtain rfl : R = fPut xs x := by rw [HF.out, if_pos hox]
        clear HF HRF
        go_wp2
        go_ret
        exact ⟨_, _, _, rfl, HML2.out, HM5.out, BW.out⟩

end Go.Proofs.Ytoffelfcmfpooaa
namespace Go.Proofs.Ytoffelfcmfpooaa
open Go.RowKit
theorem cts_const {α : Type} {f : α → Nat} {m : Nat} (h : ∀ x, f x = m) : ∀ xs : List α, cts f xs = m * xs.length
  | [] => by simp [cts]
  | x :: xs => by rw [cts, h, cts_const h xs, List.length_cons, Nat.mul_succ]; omega







end Go.Proofs.Ytoffelfcmfpooaa
namespace Go.Proofs.Ytoffelfcmfpooaa
open Go.RowKit

theorem CmdD.cntT_le (x : CmdD) : x.cntT ≤ 2 * x.c.wt := by
  have h0 : x.c.wt = (x.set.length + (x.name.length + (x.tag.length + (x.chunks.length + (cat strC x.chunks).wt + 0)))) := rfl
  have h1 : x.cntT = cts (fun _ => 1) x.chunks := rfl
  rw [h1, cts_const (f := fun _ => 1) (m := 1) (fun _ => rfl)]
  omega

end Go.Proofs.Ytoffelfcmfpooaa
