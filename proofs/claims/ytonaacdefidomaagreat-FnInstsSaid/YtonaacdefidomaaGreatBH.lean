/-
  An instance put into a rising row, plain: the rising row with it. No condition.
  Copies of texts and Ids: impl's copyTexts, copyIds. Conditions: a bound on the sizes.
  Copies of commands: impl.copyCmd. Conditions: a bound on the sizes.
  Copies of instances: impl.copyInst. Conditions: a bound on the sizes.
  Copies of commands and instances: spec.l4Copy, spec.l8Copy. Conditions: a bound on the sizes.
  Copies of instances: spec.l8Copy. Conditions: a bound on the sizes.
  Rows of instances made anew: copyInsts, l8CopyAll. Conditions: a bound on the sizes.
  An instance by its Id: spec.InstAt. Conditions: a bound on the sizes.
  An instance's index: impl's closure, slices.IndexFunc, instAt. Conditions: a bound on the sizes.
  An instance by its Id: impl.InstAt; how great what is found may be. Conditions: a bound on the sizes.
  An instance put into a row: spec.l8Put, spec.InstPut. Conditions: a bound on the sizes.
  An element of an owned row changed for another one that is owned. No condition.
-/
import Derived.Test.YtonaacdefidomaaGreatBG
import Derived.Test.YtonaacdefidomaaGreatBC
import Derived.Test.YtonaacdefidomaaGreatBB
import Derived.Great.BuildSlice
set_option linter.unusedVariables false
set_option linter.unusedSimpArgs false
namespace Go.Proofs.YtonaacdefidomaaGreat

def AscI (xs : List InstD) : Prop := xs.Pairwise fun a b => idLt a.id b.id = true
theorem ascI_cons {x : InstD} {xs : List InstD} : AscI (x :: xs) ↔ (∀ y ∈ xs, idLt x.id y.id = true) ∧ AscI xs := List.pairwise_cons
theorem ascI_ext : ∀ {xs ys : List InstD}, AscI xs → AscI ys → (∀ x, x ∈ xs ↔ x ∈ ys) → xs = ys
  | [], [], _, _, _ => rfl
  | [], y :: ys, _, _, h => absurd ((h y).2 (by simp)) (by simp)
  | x :: xs, [], _, _, h => absurd ((h x).1 (by simp)) (by simp)
  | x :: xs, y :: ys, hx, hy, h => by
    obtain ⟨hx1, hx2⟩ := ascI_cons.1 hx
    obtain ⟨hy1, hy2⟩ := ascI_cons.1 hy
    have he : x = y := by
      rcases List.mem_cons.1 ((h x).1 (by simp)) with e | e
      · exact e
      · rcases List.mem_cons.1 ((h y).2 (by simp)) with e2 | e2
        · exact e2.symm
        · have h1 := hy1 x e
          have h2 := hx1 y e2
          rw [idLt_asymm h1] at h2; cases h2
    subst he
    congr 1
    refine ascI_ext hx2 hy2 fun z => ⟨fun hz => ?_, fun hz => ?_⟩
    · rcases List.mem_cons.1 ((h z).1 (List.mem_cons_of_mem _ hz)) with e | e
      · subst e
        have := hx1 z hz
        rw [idLt_irrefl] at this; cases this
      · exact e
    · rcases List.mem_cons.1 ((h z).2 (List.mem_cons_of_mem _ hz)) with e | e
      · subst e
        have := hy1 z hz
        rw [idLt_irrefl] at this; cases this
      · exact e
theorem insts_good {xs : List InstD} (h : instsOkB xs = true) : instsGood xs xs.length := by simpa [instsOkB] using h
theorem insts_asc {xs : List InstD} (h : instsOkB xs = true) : AscI xs := by
  have hg := insts_good h
  have step : ∀ (i : Nat) (hi : i + 1 < xs.length), idLt (xs[i]'(by omega)).id xs[i + 1].id = true := fun i hi => by
    obtain ⟨x, hx, _, h2⟩ := hg (i + 1) hi
    obtain ⟨_, rfl⟩ := List.getElem?_eq_some_iff.1 hx
    exact h2 _ (by omega) (List.getElem?_eq_getElem (by omega))
  refine List.pairwise_iff_getElem.2 fun i j hi hj hij => ?_
  obtain ⟨k, rfl⟩ : ∃ k, j = i + 1 + k := ⟨j - i - 1, by omega⟩
  clear hij
  induction k with
  | zero => exact step i hj
  | succ k ih => exact idLt_trans (ih (by omega)) (step (i + 1 + k) hj)
theorem insts_ok {xs : List InstD} (h : instsOkB xs = true) : ∀ x ∈ xs, instOkB x = true := fun x hx => by
  obtain ⟨i, hi, rfl⟩ := List.getElem_of_mem hx
  obtain ⟨y, hy, h1, _⟩ := insts_good h i hi
  obtain ⟨_, rfl⟩ := List.getElem?_eq_some_iff.1 hy
  exact h1
theorem insts_of {xs : List InstD} (h1 : AscI xs) (h2 : ∀ x ∈ xs, instOkB x = true) : instsOkB xs = true := instsOkB_yes fun i hi => by
  refine ⟨xs[i], List.getElem?_eq_getElem hi, h2 _ (List.getElem_mem hi), fun y hi0 hy => ?_⟩
  obtain ⟨hl, rfl⟩ := List.getElem?_eq_some_iff.1 hy
  exact List.pairwise_iff_getElem.1 h1 (i - 1) i hl hi (by omega)
/-- the reference's row: what it puts, from here on -/
def putA (x : InstD) : List InstD → Bool → List InstD
  | [], put => if put then [] else [x]
  | y :: r, put => (if put || idLt y.id x.id then [] else [x]) ++ ((if y.id = x.id then [] else [y]) ++ putA x r (put || !idLt y.id x.id))
def fPut (l : List InstD) (x : InstD) : List InstD := putA x l false
theorem putA_true (x : InstD) : ∀ r : List InstD, putA x r true = r.filter fun y => !decide (y.id = x.id)
  | [] => rfl
  | y :: r => by
    rw [putA, List.filter_cons, Bool.true_or, Bool.true_or, putA_true x r]
    by_cases h : y.id = x.id <;> simp [h]
theorem mem_putA {x z : InstD} : ∀ {r : List InstD} {p : Bool}, z ∈ putA x r p ↔ (z = x ∧ p = false) ∨ (z ∈ r ∧ ¬ z.id = x.id)
  | [], true => by simp [putA]
  | [], false => by simp [putA]
  | y :: r, true => by
    rw [putA_true]
    simp
  | y :: r, false => by
    rw [putA]
    simp only [Bool.false_or, List.mem_append, mem_putA (r := r)]
    cases h1 : idLt y.id x.id with
    | true =>
      have hne : ¬ y.id = x.id := fun e => by rw [e, idLt_irrefl] at h1; cases h1
      simp only [if_pos, if_neg hne, List.mem_cons, List.not_mem_nil, or_false, false_or]
      constructor
      · rintro (rfl | ⟨rfl, _⟩ | ⟨h, h2⟩)
        · exact .inr ⟨.inl rfl, hne⟩
        · exact .inl ⟨rfl, by trivial⟩
        · exact .inr ⟨.inr h, h2⟩
      · rintro (⟨rfl, _⟩ | ⟨rfl | h, h2⟩)
        · exact .inr (.inl ⟨rfl, by trivial⟩)
        · exact .inl rfl
        · exact .inr (.inr ⟨h, h2⟩)
    | false =>
      by_cases hne : y.id = x.id
      · simp only [Bool.false_eq_true, if_false, if_pos hne, List.mem_cons, List.not_mem_nil, or_false, false_or, Bool.not_false]
        constructor
        · rintro (rfl | ⟨_, h⟩ | ⟨h, h2⟩)
          · exact .inl ⟨rfl, by trivial⟩
          · cases h
          · exact .inr ⟨.inr h, h2⟩
        · rintro (⟨rfl, _⟩ | ⟨rfl | h, h2⟩)
          · exact .inl rfl
          · exact absurd hne h2
          · exact .inr (.inr ⟨h, h2⟩)
      · simp only [Bool.false_eq_true, if_false, if_neg hne, List.mem_cons, List.not_mem_nil, or_false, Bool.not_false]
        constructor
        · rintro (rfl | rfl | ⟨_, h⟩ | ⟨h, h2⟩)
          · exact .inl ⟨rfl, by trivial⟩
          · exact .inr ⟨.inl rfl, hne⟩
          · cases h
          · exact .inr ⟨.inr h, h2⟩
        · rintro (⟨rfl, _⟩ | ⟨rfl | h, h2⟩)
          · exact .inl rfl
          · exact .inr (.inl rfl)
          · exact .inr (.inr (.inr ⟨h, h2⟩))
theorem asc_putA {x : InstD} : ∀ {r : List InstD}, AscI r → AscI (putA x r false)
  | [], _ => by simp [putA, AscI]
  | y :: r, h => by
    obtain ⟨h1, h2⟩ := ascI_cons.1 h
    rw [putA]
    simp only [Bool.false_or]
    cases hl : idLt y.id x.id with
    | true =>
      have hne : ¬ y.id = x.id := fun e => by rw [e, idLt_irrefl] at hl; cases hl
      simp only [if_pos, if_neg hne, List.nil_append, List.cons_append, Bool.not_true]
      refine ascI_cons.2 ⟨fun z hz => ?_, asc_putA h2⟩
      rcases mem_putA.1 hz with ⟨rfl, _⟩ | ⟨hz, _⟩
      · exact hl
      · exact h1 z hz
    | false =>
      simp only [Bool.false_eq_true, if_false, Bool.not_false, putA_true, List.cons_append, List.nil_append]
      have hf : AscI (r.filter fun y => !decide (y.id = x.id)) := List.Pairwise.sublist List.filter_sublist h2
      by_cases hne : y.id = x.id
      · rw [if_pos hne, List.nil_append]
        exact ascI_cons.2 ⟨fun z hz => by rw [← hne]; exact h1 z ((List.mem_filter.1 hz).1), hf⟩
      · rw [if_neg hne]
        have hxy : idLt x.id y.id = true := by
          cases hh : idLt x.id y.id with
          | true => rfl
          | false => exact absurd (idLt_eq hl hh) hne
        refine ascI_cons.2 ⟨fun z hz => ?_, ascI_cons.2 ⟨fun z hz => h1 z ((List.mem_filter.1 hz).1), hf⟩⟩
        rcases List.mem_cons.1 hz with rfl | hz
        · exact hxy
        · exact idLt_trans hxy (h1 z ((List.mem_filter.1 hz).1))
/-- what the program sorts: the instance in its place, or behind -/
theorem put_sorted {l o ys : List InstD} {x : InstD} (hl : AscI l) (ho : (∃ (k : Nat) (hk : k < l.length), l[k].id = x.id ∧ o = l.set k x) ∨ ((∀ y ∈ l, ¬ y.id = x.id) ∧ o = l ++ [x])) (hp : ys.Perm o) (hs : ys.Pairwise fun a b => idLt b.id a.id = false) : ys = fPut l x := by
  have hmem : ∀ z, z ∈ o ↔ z = x ∨ (z ∈ l ∧ ¬ z.id = x.id) := by
    rcases ho with ⟨k, hk, he, rfl⟩ | ⟨hn, rfl⟩
    · intro z
      rw [List.mem_iff_getElem]
      constructor
      · rintro ⟨i, hi, rfl⟩
        rw [List.length_set] at hi
        rw [List.getElem_set]
        split
        · exact .inl rfl
        · rename_i hne
          refine .inr ⟨List.getElem_mem _, fun e => ?_⟩
          have hii : idLt (l[i]).id (l[k]).id = false ∧ idLt (l[k]).id (l[i]).id = false := by rw [e, he, idLt_irrefl]; exact ⟨rfl, rfl⟩
          rcases Nat.lt_or_gt_of_ne hne with h | h
          · rw [List.pairwise_iff_getElem.1 hl k i hk hi h] at hii; cases hii.2
          · rw [List.pairwise_iff_getElem.1 hl i k hi hk h] at hii; cases hii.1
      · rintro (rfl | ⟨hz, hne⟩)
        · exact ⟨k, by rw [List.length_set]; exact hk, by simp⟩
        · obtain ⟨i, hi, rfl⟩ := List.getElem_of_mem hz
          refine ⟨i, by rw [List.length_set]; exact hi, ?_⟩
          rw [List.getElem_set, if_neg]
          rintro rfl
          exact hne he
    · intro z
      rw [List.mem_append, List.mem_singleton]
      constructor
      · rintro (h | h)
        · exact .inr ⟨h, hn z h⟩
        · exact .inl h
      · rintro (h | h)
        · exact .inr h
        · exact .inl h.1
  have hnd : o.Pairwise fun a b => ¬ a.id = b.id := by
    have hl' : l.Pairwise fun a b => ¬ a.id = b.id := hl.imp fun {a b} hab e => by rw [e, idLt_irrefl] at hab; cases hab
    rcases ho with ⟨k, hk, he, rfl⟩ | ⟨hn, rfl⟩
    · refine List.pairwise_iff_getElem.2 fun i j hi hj hij => ?_
      rw [List.length_set] at hi hj
      rw [List.getElem_set, List.getElem_set]
      have key := List.pairwise_iff_getElem.1 hl'
      split
      · rename_i e
        subst e
        rw [if_neg (by omega), ← he]
        exact key _ _ hi hj hij
      · split
        · rename_i e
          subst e
          rw [← he]
          exact key _ _ hi hj hij
        · exact key _ _ hi hj hij
    · rw [List.pairwise_append]
      exact ⟨hl', by simp, fun a ha b hb => by rw [List.mem_singleton.1 hb]; exact hn a ha⟩
  have hya : AscI ys := by
    have hnd2 : ys.Pairwise fun a b => ¬ a.id = b.id := (List.Perm.pairwise_iff (fun {a b} h e => h e.symm) hp).2 hnd
    refine List.Pairwise.imp (R := fun a b => idLt b.id a.id = false ∧ ¬ a.id = b.id) (fun {a b} h => ?_) (hs.and hnd2)
    cases hh : idLt a.id b.id with
    | true => rfl
    | false => exact absurd (idLt_eq hh h.1) h.2
  refine ascI_ext hya (asc_putA hl) fun z => ?_
  rw [hp.mem_iff, hmem, fPut, mem_putA]
  simp
theorem put_ok {l : List InstD} {x : InstD} (hl : instsOkB l = true) : instsOkB (fPut l x) = instOkB x := by
  cases h : instOkB x with
  | true =>
    refine insts_of (asc_putA (insts_asc hl)) fun z hz => ?_
    rcases mem_putA.1 hz with ⟨rfl, _⟩ | ⟨hz, _⟩
    · exact h
    · exact insts_ok hl z hz
  | false =>
    cases hh : instsOkB (fPut l x) with
    | false => rfl
    | true =>
      have := insts_ok hh x (mem_putA.2 (.inl ⟨rfl, rfl⟩))
      rw [h] at this; cases this
noncomputable def fInstPut (l : List InstD) (x : InstD) : List InstD := if instsOkB l = true then (if instOkB x = true then fPut l x else l) else []
/-- the loop's steps -/
theorem putA_len (x : InstD) : ∀ (r : List InstD) (p : Bool), (putA x r p).length ≤ r.length + 1
  | [], p => by cases p <;> simp [putA]
  | y :: r, p => by
    have ih := putA_len x r (p || !idLt y.id x.id)
    rw [putA]
    cases hp : p || idLt y.id x.id with
    | true =>
      simp only [if_pos, List.nil_append, List.length_append, List.length_cons]
      split <;> simp <;> omega
    | false =>
      have h2 : p = false ∧ idLt y.id x.id = false := by simpa using hp
      rw [h2.1, h2.2] at ih ⊢
      simp only [Bool.false_or, Bool.not_false, putA_true, Bool.false_eq_true, if_false, List.length_append, List.length_cons, List.length_nil] at ih ⊢
      have hf := List.length_filter_le (fun y => !decide (y.id = x.id)) r
      split <;> simp <;> omega
theorem cat_wt_filter (p : InstD → Bool) : ∀ r : List InstD, (cat InstD.c (r.filter p)).wt ≤ (cat InstD.c r).wt
  | [] => Nat.le_refl _
  | y :: r => by
    have ih := cat_wt_filter p r
    rw [List.filter_cons]
    split
    · rw [cat_cons, cat_cons, Cs.wt_app, Cs.wt_app]; omega
    · rw [cat_cons, Cs.wt_app]; omega
theorem putA_wt (x : InstD) : ∀ (r : List InstD), (cat InstD.c (putA x r false)).wt ≤ (cat InstD.c r).wt + x.c.wt
  | [] => by simp [putA, cat_one]
  | y :: r => by
    have ih := putA_wt x r
    rw [putA]
    simp only [Bool.false_or]
    have hc : (cat InstD.c (y :: r)).wt = y.c.wt + (cat InstD.c r).wt := by rw [cat_cons, Cs.wt_app]
    have h1 : (cat InstD.c (if y.id = x.id then [] else [y])).wt ≤ y.c.wt := by
      split
      · exact Nat.zero_le _
      · rw [cat_one]; exact Nat.le_refl _
    cases hl : idLt y.id x.id with
    | true =>
      simp only [if_pos, List.nil_append, Bool.not_true, cat_app, Cs.wt_app]
      omega
    | false =>
      simp only [Bool.false_eq_true, if_false, Bool.not_false, putA_true, cat_app, Cs.wt_app, cat_one]
      have := cat_wt_filter (fun y => !decide (y.id = x.id)) r
      omega

end Go.Proofs.YtonaacdefidomaaGreat
namespace Go.Proofs.YtonaacdefidomaaGreat
open Go.RowKit
theorem strC_flat (s : List UInt8) : (strC s).flat = true := rfl

set_option maxRecDepth 100000 in
set_option maxHeartbeats 1000000 in
theorem copyTexts_any (xs : List (List UInt8)) (A : Option Addr) (n c : Nat) (w : World) (hn : n ≤ 1048576) (h : Rep anyB w (.sl 9 1 n (cat strC xs) .nil) [.slice A n c]) :
    Calls Tryz.prog 73 #[.slice A n c] w fun e w' => ∃ A' c', e = .returned (.slice A' n c') ∧ Mine w' w.heap.size (.sl 9 1 n (cat strC xs) .nil) [.slice A' n c'] ∧ Below w.heap.size w w' := by
  obtain ⟨cells, hrd, hrc, hwd⟩ := h.row
  have HRD := Lib.hid hrd
  have HRC := Lib.hid hrc
  have HWD := Lib.hid hwd
  clear h hrd hrc hwd
  go_enter Tryz.func73, Tryz.ntmps73
  go_wp2_with (at_builtin; go_must (refine wpList_app E_str _ rfl _ (.tmp 3) rfl w.heap.size (.slice none 0 0) 0 [] rfl ⟨by simp, .inl ⟨rfl, rfl⟩⟩ _ _ _ cells rfl HRD.out HRC.out.one (by omega) (Nat.le_refl _) ?_; intro vv w2 hown hg hat; have hb2 : Below w.heap.size w w2 := Below.grown (Below.refl _ _) hg (Nat.le_refl _) (fun k hk => by cases hk); rw [Nat.zero_add, List.nil_append] at hown; obtain ⟨Av, cv, rfl, _⟩ := SlR.of_own hown; have HB2 := Lib.hid hb2; have HO := Lib.hid hown; clear hb2 hown hg hat))
  go_ret
  exact ⟨_, _, rfl, ⟨_, nodup_own _, mine_row (cat_flat strC_flat xs) HRC.out HWD.out HO.out rfl⟩, HB2.out⟩

theorem IdD.flat (x : IdD) : x.c.flat = true := rfl

set_option maxRecDepth 100000 in
set_option maxHeartbeats 1000000 in
theorem copyIds_any (xs : List IdD) (A : Option Addr) (n c : Nat) (w : World) (hn : n ≤ 1048576) (h : Rep anyB w (.sl 26 2 n (cat IdD.c xs) .nil) [.slice A n c]) :
    Calls Tryz.prog 60 #[.slice A n c] w fun e w' => ∃ A' c', e = .returned (.slice A' n c') ∧ Mine w' w.heap.size (.sl 26 2 n (cat IdD.c xs) .nil) [.slice A' n c'] ∧ Below w.heap.size w w' := by
  obtain ⟨cells, hrd, hrc, hwd⟩ := h.row
  have HRD := Lib.hid hrd
  have HRC := Lib.hid hrc
  have HWD := Lib.hid hwd
  clear h hrd hrc hwd
  go_enter Tryz.func60, Tryz.ntmps60
  go_wp2_with (at_builtin; go_must (refine wpList_app E_Id _ rfl _ (.tmp 3) rfl w.heap.size (.slice none 0 0) 0 [] rfl ⟨by simp, .inl ⟨rfl, rfl⟩⟩ _ _ _ cells rfl HRD.out HRC.out.one (by omega) (Nat.le_refl _) ?_; intro vv w2 hown hg hat; have hb2 : Below w.heap.size w w2 := Below.grown (Below.refl _ _) hg (Nat.le_refl _) (fun k hk => by cases hk); rw [Nat.zero_add, List.nil_append] at hown; obtain ⟨Av, cv, rfl, _⟩ := SlR.of_own hown; have HB2 := Lib.hid hb2; have HO := Lib.hid hown; clear hb2 hown hg hat))
  go_ret
  exact ⟨_, _, rfl, ⟨_, nodup_own _, mine_row (cat_flat IdD.flat xs) HRC.out HWD.out HO.out rfl⟩, HB2.out⟩

end Go.Proofs.YtonaacdefidomaaGreat
namespace Go.Proofs.YtonaacdefidomaaGreat
open Go.RowKit

set_option maxRecDepth 100000 in
set_option maxHeartbeats 2000000 in
theorem copyCmd_any (x : CmdD) (cs : List Value) (w : World) (hwt : x.c.wt ≤ 1048576) (h : Rep anyB w x.c cs) :
    Calls Tryz.prog 59 #[.agg cs.toArray] w fun e w' => ∃ cs', e = .returned (.agg cs'.toArray) ∧ Mine w' w.heap.size x.c cs' ∧ Below w.heap.size w w' := by
  have hw0 : x.c.wt = x.set.length + (x.name.length + (x.tag.length + (x.chunks.length + (cat strC x.chunks).wt + 0))) := rfl
  obtain ⟨A0, k0, rfl, s0⟩ := CmdD.open h
  obtain ⟨a0, a1, a2, a3, a4, a5, a6, a7⟩ := x
  simp only [] at s0 hw0 ⊢
  have hn1 : a7.length ≤ 1048576 := by omega
  have S0 := Lib.hid s0
  clear h hwt hw0 s0
  go_enter Tryz.func59, Tryz.ntmps59
  go_wp2_with fail
  refine (copyTexts_any a7 _ _ _ _ hn1 (S0.out.below (by repeat' (first | with_reducible exact Below.refl _ _ | with_reducible exact BW.out | with_reducible refine Below.setCell ?_ ?_ _ | with_reducible refine Below.alloc ?_ ?_ _ | with_reducible refine Below.drew ?_ | (simp; done) | (simp; omega) | omega)))).mono ?_; rintro e v1 ⟨A1, k1, rfl, hM, hb⟩
  have SB := Blk.below (blk2_0 _ _ _ _) hb
  have ZB := Lib.hid (Blk.setOther (Blk.below (blk2_1 _ _ _ _) hb) (a := ⟨w.heap.size, 7, none⟩) (by simp) (.slice A1 a7.length k1))
  have BW := Lib.hid (Below.setCell (show Below w.heap.size w v1 from Below.trans (by repeat' (first | with_reducible exact Below.refl _ _ | with_reducible exact BW.out | with_reducible refine Below.setCell ?_ ?_ _ | with_reducible refine Below.alloc ?_ ?_ _ | with_reducible refine Below.drew ?_ | (simp; done) | (simp; omega) | omega)) (hb.mono (by first | (simp; done) | (simp; omega) | omega))) (p := ⟨w.heap.size, 7, none⟩) (Nat.le_refl _) (.slice A1 a7.length k1))
  have HZ := Lib.hid (show w.heap.size + 1 + 1 ≤ v1.heap.size from Nat.le_trans (by simp) hb.size); clear hb
  have hq0 : v1.cell? ⟨w.heap.size, 7, none⟩ = some (.slice A0 a7.length k0) := blk_cell0 (L := [.int .i64 a0, .int .i64 a1, .int .i64 a2, .string (bs a3), .string (bs a4), .string (bs a5), .int .i64 a6, .slice A0 a7.length k0]) SB 7 rfl
  have hfz : v1.frozen? ⟨w.heap.size, 7, none⟩ = false := SB.frozen 7
  have HS := Lib.hid (blk_put0 SB 7 (.slice A1 a7.length k1)); clear SB
  have HM := Lib.hid hM; clear hM
  go_wp2_with (first
    | ((with_reducible show wpList _ _ _ ({ dst := _, op := Op.load 29 _, type := _, pos := _, after := _, guard := _ } :: _) _ _); refine wpList_load_row _ ⟨w.heap.size, 0, none⟩ rfl [.int .i64 a0, .int .i64 a1, .int .i64 a2, .string (bs a3), .string (bs a4), .string (bs a5), .int .i64 a6, .slice A1 a7.length k1] agg_Cmd rfl (blk_cells HS.out) ?_)
    | ((with_reducible show wpList _ _ _ ({ dst := _, op := Op.store 29 _ _, type := _, pos := _, after := _, guard := _ } :: _) _ _); refine wpList_store_row _ (w.heap.size + 1) 29 0 [.int .i64 a0, .int .i64 a1, .int .i64 a2, .string (bs a3), .string (bs a4), .string (bs a5), .int .i64 a6, .slice A1 a7.length k1] [] [.int .i64 0, .int .i64 0, .int .i64 0, .string ⟨#[]⟩, .string ⟨#[]⟩, .string ⟨#[]⟩, .int .i64 0, .slice none 0 0] [] _ rfl rfl agg_Cmd ZB.out rfl rfl rfl (by simp [Value.oneCell']) ?_; intro v9 hzb hzg)
    | fail)
  obtain ⟨F, hnd, ho⟩ := HM.out
  have ho2 : Own v9 w.heap.size (.sl 9 1 a7.length (cat strC a7) .nil) [.slice A1 a7.length k1] F := ho.keep0 (fun b hb => by
    have h1 := ho.in b hb
    have h3 : w.heap.size + 1 + 1 ≤ b := by have := h1.1; simp at this; omega
    refine ⟨by omega, (hzg.block b (by rw [setCell_size]; exact h1.2) (fun e => by injection e with e; omega)).trans (Below.heap_setCell _ _ _ _ (fun e => by have e2 : b = w.heap.size := e; omega))⟩)
  exact bodyPost_cell rfl ⟨w.heap.size + 1, 0, none⟩ rfl [.int .i64 a0, .int .i64 a1, .int .i64 a2, .string (bs a3), .string (bs a4), .string (bs a5), .int .i64 a6, .slice A1 a7.length k1] agg_Cmd rfl (blk_cells hzb) rfl ⟨_, rfl, ⟨F, hnd, CmdD.shutO (x := ⟨a0, a1, a2, a3, a4, a5, a6, a7⟩) ho2⟩, Below.grown BW.out hzg (by rw [setCell_size]; have := HZ.out; omega) (fun k hk => by injection hk with hk; omega)⟩

end Go.Proofs.YtonaacdefidomaaGreat
namespace Go.Proofs.YtonaacdefidomaaGreat
open Go.RowKit

set_option maxRecDepth 100000 in
set_option maxHeartbeats 2000000 in
theorem copyInst_any (x : InstD) (cs : List Value) (w : World) (hwt : x.c.wt ≤ 1048576) (h : Rep anyB w x.c cs) :
    Calls Tryz.prog 34 #[.agg cs.toArray] w fun e w' => ∃ cs', e = .returned (.agg cs'.toArray) ∧ Mine w' w.heap.size x.c cs' ∧ Below w.heap.size w w' := by
  have hw0 : x.c.wt = (x.cmd.set.length + (x.cmd.name.length + (x.cmd.tag.length + (x.cmd.chunks.length + (cat strC x.cmd.chunks).wt + (x.deps.length + (cat IdD.c x.deps).wt + 0))))) := rfl
  obtain ⟨A0, k0, A1, k1, rfl, s0, s1⟩ := InstD.open h
  obtain ⟨⟨a0, a1⟩, a2, a3, a4, ⟨c0, c1, c2, c3, c4, c5, c6, c7⟩, a5, a6, a7⟩ := x
  simp only [] at s0 s1 hw0 ⊢
  have hn1 : a6.length ≤ 1048576 := by omega
  have hwc : (CmdD.c ⟨c0, c1, c2, c3, c4, c5, c6, c7⟩).wt ≤ 1048576 := by have e0 : (CmdD.c ⟨c0, c1, c2, c3, c4, c5, c6, c7⟩).wt = c3.length + (c4.length + (c5.length + (c7.length + (cat strC c7).wt + 0))) := rfl; omega
  have SC := Lib.hid (show Rep anyB w (CmdD.c ⟨c0, c1, c2, c3, c4, c5, c6, c7⟩) [.int .i64 c0, .int .i64 c1, .int .i64 c2, .string (bs c3), .string (bs c4), .string (bs c5), .int .i64 c6, .slice A0 c7.length k0] from CmdD.shut s0)
  have S1 := Lib.hid s1
  clear h hwt hw0 s0 s1
  go_enter Tryz.func34, Tryz.ntmps34
  go_wp2_with fail
  refine (copyCmd_any ⟨c0, c1, c2, c3, c4, c5, c6, c7⟩ _ _ hwc (SC.out.below (by repeat' (first | with_reducible exact Below.refl _ _ | with_reducible exact BW.out | with_reducible refine Below.setCell ?_ ?_ _ | with_reducible refine Below.alloc ?_ ?_ _ | with_reducible refine Below.drew ?_ | (simp; done) | (simp; omega) | omega)))).mono ?_; rintro e v1 ⟨cs', rfl, hM, hb⟩
  obtain ⟨F1, nd1, o1⟩ := hM
  obtain ⟨A2, k2, F2, rfl, rfl, so⟩ := CmdD.openO o1
  simp only [] at so ⊢
  have hF2 : ∀ b ∈ F1, w.heap.size + 1 + 1 ≤ b := fun b hb2 => by have := (so.in b hb2).1; simp at this; omega
  have HF2 := Lib.hid hF2; clear hF2
  have ND1 := Lib.hid nd1; clear nd1 o1
  have SO := Lib.hid so; clear so
  have SB := Lib.hid (Blk.below (blk2_0 _ _ _ _) hb)
  have ZB := Lib.hid (Blk.below (blk2_1 _ _ _ _) hb)
  have BW := Lib.hid (show Below w.heap.size w v1 from Below.trans (by repeat' (first | with_reducible exact Below.refl _ _ | with_reducible exact BW.out | with_reducible refine Below.setCell ?_ ?_ _ | with_reducible refine Below.alloc ?_ ?_ _ | with_reducible refine Below.drew ?_ | (simp; done) | (simp; omega) | omega)) (hb.mono (by first | (simp; done) | (simp; omega) | omega)))
  have HZ := Lib.hid (show w.heap.size + 1 + 1 ≤ v1.heap.size from Nat.le_trans (by simp) hb.size); clear hb
  go_wp2_with (first
    | ((with_reducible show wpList _ _ _ ({ dst := _, op := Op.store 29 _ _, type := _, pos := _, after := _, guard := _ } :: _) _ _); refine wpList_store_row _ w.heap.size 38 5 [.int .i64 c0, .int .i64 c1, .int .i64 c2, .string (bs c3), .string (bs c4), .string (bs c5), .int .i64 c6, .slice A2 c7.length k2] [.int .i64 a0, .int .i64 a1, .int .i64 a2, .int .i64 a3, .int .i64 a4] [.int .i64 c0, .int .i64 c1, .int .i64 c2, .string (bs c3), .string (bs c4), .string (bs c5), .int .i64 c6, .slice A0 c7.length k0] [.int .i64 a5, .slice A1 a6.length k1, .bool a7] _ rfl rfl agg_Cmd SB.out rfl rfl rfl (by simp [Value.oneCell']) ?_; intro v2 hsb hsg; have SB2 := Lib.hid (show Blk v2 w.heap.size 38 [.int .i64 a0, .int .i64 a1, .int .i64 a2, .int .i64 a3, .int .i64 a4, .int .i64 c0, .int .i64 c1, .int .i64 c2, .string (bs c3), .string (bs c4), .string (bs c5), .int .i64 c6, .slice A2 c7.length k2, .int .i64 a5, .slice A1 a6.length k1, .bool a7].toArray from hsb); have ZB2 := Lib.hid (ZB.out.grown hsg (by omega)); have BW2 := Lib.hid (Below.grown BW.out hsg BW.out.size (fun k hk => by injection hk with hk; omega)); have HZ2 := Lib.hid (Nat.le_trans HZ.out hsg.size); have SO2 := Lib.hid (SO.out.keep0 (base' := w.heap.size) (w' := v2) (fun b hb2 => ⟨by have := HF2.out b hb2; omega, hsg.block b (SO.out.in b hb2).2 (fun e => by injection e with e; have := HF2.out b hb2; omega)⟩)); have hq1 : v2.cell? ⟨w.heap.size, 14, none⟩ = some (.slice A1 a6.length k1) := blk_cell0 (L := [.int .i64 a0, .int .i64 a1, .int .i64 a2, .int .i64 a3, .int .i64 a4, .int .i64 c0, .int .i64 c1, .int .i64 c2, .string (bs c3), .string (bs c4), .string (bs c5), .int .i64 c6, .slice A2 c7.length k2, .int .i64 a5, .slice A1 a6.length k1, .bool a7]) SB2.out 14 rfl; clear hsb hsg)
    | fail)
  refine (copyIds_any a6 _ _ _ _ hn1 (S1.out.below BW2.out)).mono ?_; rintro e v3 ⟨A3, k3, rfl, hM, hb⟩
  obtain ⟨F3, nd3, so3⟩ := hM
  have SO3 := Lib.hid so3; clear so3
  have ND3 := Lib.hid nd3; clear nd3
  have SB3 := SB2.out.below hb
  have hq0 : v3.cell? ⟨w.heap.size, 14, none⟩ = some (.slice A1 a6.length k1) := blk_cell0 (L := [.int .i64 a0, .int .i64 a1, .int .i64 a2, .int .i64 a3, .int .i64 a4, .int .i64 c0, .int .i64 c1, .int .i64 c2, .string (bs c3), .string (bs c4), .string (bs c5), .int .i64 c6, .slice A2 c7.length k2, .int .i64 a5, .slice A1 a6.length k1, .bool a7]) SB3 14 rfl
  have hfz : v3.frozen? ⟨w.heap.size, 14, none⟩ = false := SB3.frozen 14
  have HS := Lib.hid (show Blk (v3.setCell ⟨w.heap.size, 14, none⟩ (.slice A3 a6.length k3)) w.heap.size 38 [.int .i64 a0, .int .i64 a1, .int .i64 a2, .int .i64 a3, .int .i64 a4, .int .i64 c0, .int .i64 c1, .int .i64 c2, .string (bs c3), .string (bs c4), .string (bs c5), .int .i64 c6, .slice A2 c7.length k2, .int .i64 a5, .slice A3 a6.length k3, .bool a7].toArray from blk_put0 SB3 14 (.slice A3 a6.length k3)); clear SB3
  have ZB4 := Lib.hid (Blk.setOther (ZB2.out.below hb) (a := ⟨w.heap.size, 14, none⟩) (by simp) (.slice A3 a6.length k3))
  have BW4 := Lib.hid (Below.setCell (BW2.out.trans (hb.mono BW2.out.size)) (p := ⟨w.heap.size, 14, none⟩) (Nat.le_refl _) (.slice A3 a6.length k3))
  have SO4 := Lib.hid (SO2.out.below hb)
  have HIN2 := Lib.hid (fun b (hb2 : b ∈ F1) => (SO2.out.in b hb2).2)
  have HZ3 := Lib.hid (Nat.le_trans HZ2.out hb.size); clear hb hq1
  go_wp2_with (first
    | ((with_reducible show wpList _ _ _ ({ dst := _, op := Op.load 38 _, type := _, pos := _, after := _, guard := _ } :: _) _ _); refine wpList_load_row _ ⟨w.heap.size, 0, none⟩ rfl [.int .i64 a0, .int .i64 a1, .int .i64 a2, .int .i64 a3, .int .i64 a4, .int .i64 c0, .int .i64 c1, .int .i64 c2, .string (bs c3), .string (bs c4), .string (bs c5), .int .i64 c6, .slice A2 c7.length k2, .int .i64 a5, .slice A3 a6.length k3, .bool a7] agg_Inst rfl (blk_cells HS.out) ?_)
    | ((with_reducible show wpList _ _ _ ({ dst := _, op := Op.store 38 _ _, type := _, pos := _, after := _, guard := _ } :: _) _ _); refine wpList_store_row _ (w.heap.size + 1) 38 0 [.int .i64 a0, .int .i64 a1, .int .i64 a2, .int .i64 a3, .int .i64 a4, .int .i64 c0, .int .i64 c1, .int .i64 c2, .string (bs c3), .string (bs c4), .string (bs c5), .int .i64 c6, .slice A2 c7.length k2, .int .i64 a5, .slice A3 a6.length k3, .bool a7] [] [.int .i64 0, .int .i64 0, .int .i64 0, .int .i64 0, .int .i64 0, .int .i64 0, .int .i64 0, .int .i64 0, .string ⟨#[]⟩, .string ⟨#[]⟩, .string ⟨#[]⟩, .int .i64 0, .slice none 0 0, .int .i64 0, .slice none 0 0, .bool false] [] _ rfl rfl agg_Inst ZB4.out rfl rfl rfl (by simp [Value.oneCell']) ?_; intro v9 hzb hzg)
    | fail)
  have keepB : ∀ b, w.heap.size + 1 + 1 ≤ b → b < v3.heap.size → v9.heap[b]? = v3.heap[b]? := fun b h1 h2 =>
    (hzg.block b (by rw [setCell_size]; exact h2) (fun e => by injection e with e; omega)).trans (Below.heap_setCell _ _ _ _ (fun e => by have e2 : b = w.heap.size := e; omega))
  have oa := SO4.out.keep0 (base' := w.heap.size) (w' := v9) (fun b hb2 => ⟨by have := HF2.out b hb2; omega, keepB b (HF2.out b hb2) (SO4.out.in b hb2).2⟩)
  have ob := SO3.out.keep0 (base' := w.heap.size) (w' := v9) (fun b hb2 => by
    have h1 := SO3.out.in b hb2
    have h2 := HZ2.out
    exact ⟨by omega, keepB b (by omega) h1.2⟩)
  refine bodyPost_cell rfl ⟨w.heap.size + 1, 0, none⟩ rfl [.int .i64 a0, .int .i64 a1, .int .i64 a2, .int .i64 a3, .int .i64 a4, .int .i64 c0, .int .i64 c1, .int .i64 c2, .string (bs c3), .string (bs c4), .string (bs c5), .int .i64 c6, .slice A2 c7.length k2, .int .i64 a5, .slice A3 a6.length k3, .bool a7] agg_Inst rfl (blk_cells hzb) rfl ⟨_, rfl, ⟨F1 ++ F3, nodup_app (m := v2.heap.size) ND1.out ND3.out HIN2.out (fun b hb2 => (SO3.out.in b hb2).1), InstD.shutO (x := ⟨⟨a0, a1⟩, a2, a3, a4, ⟨c0, c1, c2, c3, c4, c5, c6, c7⟩, a5, a6, a7⟩) oa ob⟩, ?_⟩
  exact Below.grown BW4.out hzg (by rw [setCell_size]; have := HZ3.out; omega) (fun k hk => by injection hk with hk; omega)

end Go.Proofs.YtonaacdefidomaaGreat
namespace Go.Proofs.YtonaacdefidomaaGreat
open Go.RowKit










































end Go.Proofs.YtonaacdefidomaaGreat
namespace Go.Proofs.YtonaacdefidomaaGreat
open Go.RowKit
















































end Go.Proofs.YtonaacdefidomaaGreat
namespace Go.Proofs.YtonaacdefidomaaGreat
open Go.RowKit

theorem fill_get : ∀ (L : List Value) (k : Nat) (acc : Array Value) (i : Nat), ((L.zipIdx k).foldl (fun (a : Array Value) (p : Value × Nat) => a.setIfInBounds (0 + p.2) p.1) acc)[i]? = if k ≤ i ∧ i < k + L.length ∧ i < acc.size then L[i - k]? else acc[i]?
  | [], k, acc, i => by
    rw [if_neg (by rintro ⟨h1, h2, _⟩; simp at h2; omega)]
    rfl
  | x :: L, k, acc, i => by
    rw [List.zipIdx_cons, List.foldl_cons, fill_get L (k + 1) _ i, Array.size_setIfInBounds, Array.getElem?_setIfInBounds, List.length_cons]
    by_cases h0 : i = k
    · subst h0
      rw [if_neg (by omega), if_pos (by omega)]
      by_cases h1 : i < acc.size
      · rw [if_pos (by omega), if_pos (by omega)]; simp
      · rw [if_neg (by omega), if_neg (by omega)]; simp; omega
    · by_cases h1 : k + 1 ≤ i ∧ i < k + 1 + L.length ∧ i < acc.size
      · rw [if_pos h1, if_pos (by omega), show i - k = (i - (k + 1)) + 1 by omega, List.getElem?_cons_succ]
      · rw [if_neg h1, if_neg (by omega), if_neg (by omega)]
theorem fill_over (cur : Array Value) (cs : List Value) (n : Nat) (h1 : cs.length = n) (h2 : cur.size = n) : Instr.fill (fun i => some (i * n, n)) cur [(0, .agg cs.toArray)] = some cs.toArray := by
  have hc : (Value.agg cs.toArray).cells = cs.toArray := rfl
  simp only [Instr.fill, hc, Nat.zero_mul, List.size_toArray]
  rw [if_neg (by rw [h1]; simp; omega)]
  congr 1
  apply Array.ext_getElem?
  intro i
  rw [← Array.foldl_toList, Array.toList_zipIdx]
  rw [fill_get cs 0 cur i]
  split
  · simp
  · rw [Array.getElem?_eq_none (by omega)]; simp; omega
set_option maxRecDepth 100000 in
theorem wpList_build1 {ops : Array Oper} {rest : List Oper} {o : Oper} {a : Act} {w : World} {Q : Exit → Act → World → Prop} (hg : o.guard = none) (x : Operand) (ho : o.op = .buildSlice 24 1 #[(0, x)]) (cs : List Value) (hl : cs.length = 16) (hx : a.eval x = .agg cs.toArray)
    (h : wpList Tryz.prog ops Q rest (a.put o.dst (.slice (some ⟨w.heap.size, 0, none⟩) 1 1)) (w.alloc (.cells cs.toArray 38))) : wpList Tryz.prog ops Q (o :: rest) a w := by
  obtain ⟨ie, hie⟩ : ∃ ie, Tryz.prog.info? 38 = some ie := by
    have := E_Inst.hi
    cases hh : Tryz.prog.info? 38 with
    | none => rw [hh] at this; cases this
    | some ie => exact ⟨ie, rfl⟩
  have hi := E_Inst.hi
  rw [hie] at hi
  simp only [Option.map_some, Option.some.injEq, Prod.mk.injEq] at hi
  obtain ⟨hz, hs, _⟩ := hi
  refine wpList_buildSlice hg 24 38 1 _ ho cs.toArray ie _ E_Inst.ht hie hz (by rw [hs]; decide) (by rw [hs]; decide) ?_ h
  rw [hs]
  have e : (Array.map (fun (x : Nat × Operand) => (x.1, a.eval x.2)) #[(0, x)]).toList = [(0, .agg cs.toArray)] := by
    simp [hx]
  show Instr.fill _ _ (Array.map (fun (x : Nat × Operand) => (x.1, a.eval x.2)) #[(0, x)]).toList = _
  rw [e]
  exact fill_over _ _ 16 hl (by simp)
theorem row_app {w w' : World} {base e sz n : Nat} {α : Type} {f : α → Cs} {xs : List α} {x : α} {v v' : Value} {cells cs : List Value} {F F' : List Nat} (hn : n = xs.length) (hf : ∀ x, (f x).width = sz)
    (ho : Own w base (cat f xs) cells F) (hnd : (v.ownBlock.toList ++ F).Nodup) (hx : Own w base (f x) cs F') (hnd' : F'.Nodup) (hdis : ∀ b ∈ F', b ∉ v.ownBlock.toList ++ F)
    (h' : w'.ownsRow base e sz v' (n + 1) (cells ++ cs)) (hg : w.grownBy w' v.ownBlock) (hat : v'.ownBlock = v.ownBlock ∨ v'.ownBlock = some w.heap.size) :
    Mine w' base (.sl e sz (n + 1) (cat f (xs ++ [x])) .nil) [v'] := by
  have hv : ∀ b ∈ F, v.ownBlock ≠ some b := fun b hb e => by
    rw [e] at hnd
    simp at hnd
    exact hnd.1 hb
  have hv' : ∀ b ∈ F', v.ownBlock ≠ some b := fun b hb e => hdis b hb (by simp [e])
  have hFF : (F ++ F').Nodup := List.nodup_append.2 ⟨(List.nodup_append.1 hnd).2.1, hnd', fun a ha b hb e => hdis b hb (by rw [← e]; exact List.mem_append_right _ ha)⟩
  refine ⟨v'.ownBlock.toList ++ (F ++ F'), ?_, Own.sl1.2 ⟨cells ++ cs, F ++ F', rfl, ?_, h', ?_⟩⟩
  · rcases hat with e | e
    · rw [e]
      refine List.nodup_append.2 ⟨by cases v.ownBlock <;> simp, hFF, fun a ha b hb e2 => ?_⟩
      subst e2
      have ha' : v.ownBlock = some a := by simpa using ha
      rcases List.mem_append.1 hb with h | h
      · exact hv a h ha'
      · exact hv' a h ha'
    · rw [e]
      refine List.nodup_append.2 ⟨by simp, hFF, fun a ha b hb e2 => ?_⟩
      subst e2
      have ha' : a = w.heap.size := by simpa using ha
      subst ha'
      rcases List.mem_append.1 hb with h | h
      · exact Nat.lt_irrefl _ (ho.in _ h).2
      · exact Nat.lt_irrefl _ (hx.in _ h).2
  · rw [cat_width hf, List.length_append, hn]; rfl
  · rw [cat_app, cat_one]
    exact Own.app.2 ⟨_, _, _, _, rfl, rfl, ho.keep (fun b hb => hg.block b (ho.in b hb).2 (fun e => hv b hb e.symm)), hx.keep (fun b hb => hg.block b (hx.in b hb).2 (fun e => hv' b hb e.symm))⟩
theorem mine_open {w : World} {base e sz n : Nat} {i : Cs} {v : Value} (h : Mine w base (.sl e sz n i .nil) [v]) : ∃ cells F, w.ownsRow base e sz v n cells ∧ Own w base i cells F ∧ (v.ownBlock.toList ++ F).Nodup ∧ i.width = n * sz := by
  obtain ⟨F0, nd, o⟩ := h
  obtain ⟨cells, F, rfl, hw, hr, hi⟩ := Own.sl1.1 o
  exact ⟨cells, F, hr, hi, nd, hw⟩
theorem mine_open_lt {w : World} {base e sz n : Nat} {i : Cs} {v : Value} {cells : List Value} {F : List Nat} (h1 : w.ownsRow base e sz v n cells) (h2 : Own w base i cells F) : ∀ b ∈ v.ownBlock.toList ++ F, b < w.heap.size := fun b hb => by
  rcases List.mem_append.1 hb with h | h
  · exact (h1.lt b (by simpa using h)).2
  · exact (h2.in b h).2
theorem mine_row0 (w : World) {base e sz : Nat} : Mine w base (.sl e sz 0 .nil .nil) [.slice none 0 0] := ⟨[], List.nodup_nil, Own.sl1.2 ⟨[], [], rfl, by simp [Cs.width], ⟨by simp, .inl ⟨rfl, rfl⟩⟩, Own.nil.2 ⟨rfl, rfl⟩⟩⟩
theorem mine_row1 {w : World} {base e sz c g : Nat} (h : w.ownsRow base e sz (.slice (some ⟨g, 0, none⟩) 0 c) 0 []) : Mine w base (.sl e sz 0 .nil .nil) [.slice (some ⟨g, 0, none⟩) 0 c] := ⟨[g], by simp, Own.sl1.2 ⟨[], [], rfl, by simp [Cs.width], h, Own.nil.2 ⟨rfl, rfl⟩⟩⟩

set_option maxRecDepth 100000 in
set_option maxHeartbeats 4000000 in
theorem copyInsts_any (xs : List InstD) (A : Option Addr) (n c : Nat) (w : World) (hn : n = xs.length) (hn1 : n ≤ 2097152) (hwt : ∀ y ∈ xs, (y.c).wt ≤ 1048576) (h : Rep anyB w (.sl 38 16 n (cat InstD.c xs) .nil) [.slice A n c]) :
    Calls Tryz.prog 32 #[.slice A n c] w fun e w' => ∃ A' c', e = .returned (.slice A' n c') ∧ Mine w' w.heap.size (.sl 38 16 n (cat InstD.c xs) .nil) [.slice A' n c'] ∧ Below w.heap.size w w' := by
  have HR := Lib.hid h; clear h
  have HN := Lib.hid hn; clear hn
  have HWT := Lib.hid hwt; clear hwt
  go_enter Tryz.func32, Tryz.ntmps32
  go_wp2
  go_loopw [3, 8] (fun oo ii wr => ∃ (j : Nat) (A' : Option Addr) (c' : Nat), j ≤ n ∧ ii = .int .i64 (j : Int) ∧ oo = .slice A' j c' ∧ Mine wr w.heap.size (.sl 38 16 j (cat InstD.c (xs.take j)) .nil) [.slice A' j c'] ∧ Below w.heap.size w wr) (fun _ ii _ => n - (intOf ii).toNat)
  case atStart => exact ⟨0, none, 0, Nat.zero_le _, rfl, rfl, mine_row0 _, Below.refl _ _⟩
  case round =>
    obtain ⟨j, A', c', hj, rfl, rfl, hm, hbel⟩ := hrel
    have L0 := Lib.hid hm; clear hm
    have L5 := Lib.hid hbel; clear hbel
    by_cases hlt : j < n
    · have hjx : j < xs.length := by have := HN.out; omega
      obtain ⟨ad, ci, rfl, _, _, hrc, hl, hc⟩ := (HR.out.below L5.out).elem InstD.width j hjx HN.out
      have hst : xs.take (j + 1) = xs.take j ++ [xs[j]] := List.take_succ_eq_append_getElem hjx
      have hsl := HWT.out _ (List.getElem_mem hjx)
      have hjl : j = (xs.take j).length := by rw [List.length_take, Nat.min_eq_left (Nat.le_of_lt hjx)]
      generalize xs[j] = x at *
      have HJL := Lib.hid hjl; clear hjl
      have HL := Lib.hid hl; clear hl
      have HC := Lib.hid hc; clear hc
      have HRC := Lib.hid hrc; clear hrc
      have HST := Lib.hid hst; clear hst
      have HSL := Lib.hid hsl; clear hsl
      obtain ⟨cells, F, hr0, ho0, hnd0, _⟩ := mine_open L0.out
      have R0 := Lib.hid hr0
      have O0 := Lib.hid ho0
      have N0 := Lib.hid hnd0
      have LT0 := Lib.hid (mine_open_lt hr0 ho0); clear hr0 ho0 hnd0
      go_wp2_with (first
        | ((with_reducible show wpList _ _ _ ({ dst := _, op := Op.store 38 _ _, type := _, pos := _, after := _, guard := _ } :: _) _ _); go_must (refine wpList_store_row _ wr.heap.size 38 0 ci [] [.int .i64 0, .int .i64 0, .int .i64 0, .int .i64 0, .int .i64 0, .int .i64 0, .int .i64 0, .int .i64 0, .string ⟨#[]⟩, .string ⟨#[]⟩, .string ⟨#[]⟩, .int .i64 0, .slice none 0 0, .int .i64 0, .slice none 0 0, .bool false] [] _ rfl rfl (HL.out ▸ agg_Inst) (blk_new wr _ _) rfl rfl HL.out.symm HRC.out.one ?_; intro v1 h4 g4; have C1 := Lib.hid (show Blk v1 wr.heap.size 38 ci.toArray by simpa using h4); have D1 := Lib.hid (show Below wr.heap.size wr v1 from Below.grown ((Below.refl _ _).alloc (Nat.le_refl _) _) g4 (by simp) (fun k hk => by injection hk with hk; omega)); clear h4 g4))
        | ((with_reducible show wpList _ _ _ ({ dst := _, op := Op.load 38 _, type := _, pos := _, after := _, guard := _ } :: _) _ _); first | refine wpList_load_row _ ⟨wr.heap.size, 0, none⟩ rfl ci agg_Inst HL.out (blk_cells C1.out) ?_ | refine wpList_load_row _ (ad.add (j * 16)) rfl ci agg_Inst HL.out HC.out ?_)
        | fail)
      refine (copyInst_any x ci _ HSL.out (HRC.out.below D1.out)).mono ?_; rintro e v2 ⟨cs', rfl, ⟨F', n', o'⟩, hb⟩
      have HL2 := Lib.hid (show cs'.length = 16 from o'.length.trans (InstD.width _))
      have N1 := Lib.hid n'; clear n'
      have O1 := Lib.hid o'; clear o'
      have BB := Lib.hid (D1.out.trans (hb.mono D1.out.size))
      have D1S := Lib.hid (Nat.le_trans L5.out.size D1.out.size)
      have D1T := Lib.hid D1.out.size
      clear hb D1 C1
      go_wp2_with (first
        | ((with_reducible show wpList _ _ _ ({ dst := _, op := Op.buildSlice _ _ _, type := _, pos := _, after := _, guard := _ } :: _) _ _); go_must (refine wpList_build1 rfl (.tmp 14) rfl cs' HL2.out rfl ?_))
        | (at_builtin; go_must (refine wpList_app E_Inst _ rfl (.tmp 12) (.tmp 15) rfl w.heap.size _ j cells rfl ((R0.out.keptBelowJ BB.out).alloc _) _ _ _ _ rfl (Reads.new (e := 38) (by simp [HL2.out])) O1.out.one (by omega) (by have h1 := L5.out.size; have h2 := BB.out.size; simp; omega) ?_; intro v' w5 hown5 hg5 hat5; have W5 := Lib.hid hown5; have G5 := Lib.hid hg5; have T5 := Lib.hid hat5; clear hown5 hg5 hat5))
        | fail)
      obtain ⟨Av, kv, rfl, _⟩ := SlR.of_own W5.out
      refine ⟨⟨j + 1, Av, kv, by omega, by go_num, rfl, ?_, ?_⟩, by simp only [intOf]; omega⟩
      · rw [HST.out]
        refine row_app HJL.out InstD.width ((O0.out.below BB.out).below ((Below.refl _ _).alloc (Nat.le_refl _) _)) N0.out ((O1.out.mono D1S.out).below ((Below.refl _ _).alloc (Nat.le_refl _) _)) N1.out (fun b hb hm => ?_) W5.out G5.out T5.out
        have h1 := LT0.out b hm
        have h2 := (O1.out.in b hb).1
        have h3 := D1T.out
        omega
      · exact Below.grown ((L5.out.trans (BB.out.mono L5.out.size)).alloc (Nat.le_trans L5.out.size BB.out.size) _) G5.out (by have h1 := L5.out.size; have h2 := BB.out.size; simp; omega) (fun k hk => ((R0.out.lt k hk).1))
    · have hjn : j = n := by omega
      subst hjn
      have hall : xs.take j = xs := List.take_of_length_le (by have := HN.out; omega)
      have h0 := L0.out
      rw [hall] at h0
      have H0 := Lib.hid h0; clear h0 hall
      go_wp2
      go_ret
      exact ⟨_, _, rfl, H0.out, L5.out⟩
































































end Go.Proofs.YtonaacdefidomaaGreat
namespace Go.Proofs.YtonaacdefidomaaGreat
open Go.RowKit

def newInst (x : IdD) : InstD := ⟨x, -1, -1, 0, ⟨0, 0, 0, [], [], [], 0, []⟩, 0, [], false⟩
def fInstAt (xs : List InstD) (x : IdD) : InstD := (xs.find? fun y => decide (y.id = x)).getD (newInst x)
theorem instAt_yes {xs : List InstD} {x : IdD} {j : Nat} (hj : j < xs.length) (h : ∀ i (hi : i < xs.length), i < j → ¬ xs[i].id = x) (he : xs[j].id = x) : fInstAt xs x = xs[j] := by
  unfold fInstAt
  have : xs.find? (fun y => decide (y.id = x)) = some xs[j] := by
    rw [List.find?_eq_some_iff_getElem]
    refine ⟨by simpa using he, j, hj, rfl, fun i hi => ?_⟩
    simpa using h i (by omega) hi
  rw [this]; rfl
theorem instAt_no {xs : List InstD} {x : IdD} (h : ∀ i (hi : i < xs.length), ¬ xs[i].id = x) : fInstAt xs x = newInst x := by
  unfold fInstAt
  have : xs.find? (fun y => decide (y.id = x)) = none := by
    rw [List.find?_eq_none]
    intro y hy
    obtain ⟨i, hi, rfl⟩ := List.getElem_of_mem hy
    simpa using h i hi
  rw [this]; rfl
theorem newInst_mine (w : World) (base : Nat) (xr xs' : Int) : Mine w base (newInst ⟨xr, xs'⟩).c [.int .i64 xr, .int .i64 xs', .int .i64 (-1), .int .i64 (-1), .int .i64 0, .int .i64 0, .int .i64 0, .int .i64 0, .string (bs []), .string (bs []), .string (bs []), .int .i64 0, .slice none 0 0, .int .i64 0, .slice none 0 0, .bool false] :=
  ⟨[], List.nodup_nil, InstD.shutO (x := newInst ⟨xr, xs'⟩) (F0 := []) (F1 := []) (Own.sl_none _ rfl) (Own.sl_none _ rfl)⟩






















































































































end Go.Proofs.YtonaacdefidomaaGreat
namespace Go.Proofs.YtonaacdefidomaaGreat
open Go.RowKit

set_option maxRecDepth 100000 in
set_option maxHeartbeats 2000000 in
theorem instAtFn_any (y : InstD) (ci : List Value) (g : Nat) (xr xs' : Int) (w : World) (h : Rep anyB w y.c ci) (hb : Blk w g 26 [.int .i64 xr, .int .i64 xs'].toArray) :
    Calls Tryz.prog 58 #[.agg ci.toArray, .pointer (some ⟨g, 0, none⟩)] w fun e w' => e = .returned (.bool (decide (y.id = ⟨xr, xs'⟩))) ∧ Below w.heap.size w w' := by
  obtain ⟨A0, k0, A1, k1, rfl, _, _⟩ := InstD.open h
  obtain ⟨⟨yr, ys⟩, a2, a3, a4, ⟨c0, c1, c2, c3, c4, c5, c6, c7⟩, a5, a6, a7⟩ := y
  simp only []
  clear h
  have hg := hb.lt
  have SB := Lib.hid (hb.alloc (.cells #[.int .i64 yr, .int .i64 ys, .int .i64 a2, .int .i64 a3, .int .i64 a4, .int .i64 c0, .int .i64 c1, .int .i64 c2, .string (bs c3), .string (bs c4), .string (bs c5), .int .i64 c6, .slice A0 c7.length k0, .int .i64 a5, .slice A1 a6.length k1, .bool a7] 38))
  have hs0 : World.cell? w ⟨g, 0, none⟩ = some (.int .i64 xr) := blk_cell0 (L := [.int .i64 xr, .int .i64 xs']) hb 0 rfl
  have hs1 : World.cell? w ⟨g, 1, none⟩ = some (.int .i64 xs') := blk_cell0 (L := [.int .i64 xr, .int .i64 xs']) hb 1 rfl
  have HD := Lib.hid (show decide ((⟨yr, ys⟩ : IdD) = ⟨xr, xs'⟩) = ((yr == xr) && (ys == xs')) by rw [Bool.eq_iff_iff]; simp)
  go_enter Tryz.func58, Tryz.ntmps58
  go_wp2_with (first
    | ((with_reducible show wpList _ _ _ ({ dst := _, op := Op.load 26 _, type := _, pos := _, after := _, guard := _ } :: _) _ _); refine wpList_load_row _ ⟨g, 0, none⟩ rfl [.int .i64 xr, .int .i64 xs'] agg_Id rfl (blk_cells SB.out) ?_)
    | fail)
  all_goals (go_ret; exact ⟨rfl, (by repeat' (first | with_reducible exact Below.refl _ _ | with_reducible exact BW.out | with_reducible refine Below.setCell ?_ ?_ _ | with_reducible refine Below.alloc ?_ ?_ _ | with_reducible refine Below.drew ?_ | (simp; done) | (simp; omega) | omega))⟩)

set_option maxRecDepth 100000 in
set_option maxHeartbeats 2000000 in
theorem indexFn_any (xs : List InstD) (A : Option Addr) (n c g : Nat) (xr xs' : Int) (w : World) (hn : n = xs.length) (hwt : n ≤ 1048576) (h : Rep anyB w (.sl 38 16 n (cat InstD.c xs) .nil) [.slice A n c]) (hb : Blk w g 26 [.int .i64 xr, .int .i64 xs'].toArray) :
    Calls Tryz.prog 57 #[.slice A n c, .func (.func 58) #[] #[.pointer (some ⟨g, 0, none⟩)]] w fun e w' => ∃ q : Int, e = .returned (.int .i64 q) ∧ ((∃ (j : Nat) (hj : j < xs.length), q = (j : Int) ∧ xs[j].id = ⟨xr, xs'⟩ ∧ ∀ i (hi : i < xs.length), i < j → ¬ xs[i].id = ⟨xr, xs'⟩) ∨ (q = -1 ∧ ∀ i (hi : i < xs.length), ¬ xs[i].id = ⟨xr, xs'⟩)) ∧ Below w.heap.size w w' := by
  have HN := Lib.hid hn; clear hn
  have HR := Lib.hid h; clear h
  have SB := Lib.hid hb; clear hb
  go_enter Tryz.func57, Tryz.ntmps57
  go_wp2
  go_loopw [8] (fun ii wr => ∃ j : Nat, j ≤ n ∧ ii = .int .i64 (j : Int) ∧ (∀ i (hi : i < xs.length), i < j → ¬ xs[i].id = ⟨xr, xs'⟩) ∧ Blk wr g 26 [.int .i64 xr, .int .i64 xs'].toArray ∧ Below w.heap.size w wr) (fun ii _ => n - (intOf ii).toNat)
  case atStart => exact ⟨0, Nat.zero_le _, rfl, fun i hi h => absurd h (Nat.not_lt_zero _), SB.out, Below.refl _ _⟩
  case round =>
    obtain ⟨j, hj, rfl, hall, hsb, hbel⟩ := hrel
    clear SB
    have SB := Lib.hid hsb; clear hsb
    have HA := Lib.hid hall; clear hall
    have BW := Lib.hid hbel; clear hbel
    by_cases hlt : j < n
    · have hjx : j < xs.length := by have := HN.out; omega
      obtain ⟨ad, ci, rfl, _, _, hrc, hl, hc⟩ := (HR.out.below BW.out).elem InstD.width j hjx HN.out
      have hst : ¬ xs[j].id = ⟨xr, xs'⟩ → ∀ i (hi : i < xs.length), i < j + 1 → ¬ xs[i].id = ⟨xr, xs'⟩ := fun hne i hi hij => by
        by_cases he : i = j
        · subst he; exact hne
        · exact HA.out i hi (by omega)
      have HST := Lib.hid hst; clear hst
      have hyes : xs[j].id = ⟨xr, xs'⟩ → ∃ (j' : Nat) (hj' : j' < xs.length), ((j : Int)) = (j' : Int) ∧ xs[j'].id = ⟨xr, xs'⟩ ∧ ∀ i (hi : i < xs.length), i < j' → ¬ xs[i].id = ⟨xr, xs'⟩ := fun he => ⟨j, hjx, rfl, he, HA.out⟩
      have HY := Lib.hid hyes; clear hyes
      have HL := Lib.hid hl; clear hl
      have HC := Lib.hid hc; clear hc
      have HRC := Lib.hid hrc; clear hrc
      generalize xs[j] = y at *
      go_wp2_with (first | ((with_reducible show wpList _ _ _ ({ dst := _, op := Op.load 38 _, type := _, pos := _, after := _, guard := _ } :: _) _ _); refine wpList_load_row _ (ad.add (j * 16)) rfl ci agg_Inst HL.out HC.out ?_) | fail)
      refine (instAtFn_any y ci g xr xs' _ HRC.out SB.out).mono ?_; rintro e v1 ⟨rfl, hb⟩
      have X := Lib.hid (SB.out.below hb); clear SB
      have SB := Lib.hid X.out; clear X
      have X := Lib.hid (show Below w.heap.size w v1 from BW.out.trans (hb.mono BW.out.size)); clear BW hb
      have BW := Lib.hid X.out; clear X
      cases hd : decide (y.id = ⟨xr, xs'⟩)
      case true =>
        have HY2 := Lib.hid (HY.out (of_decide_eq_true hd)); clear hd
        go_wp2
        go_ret
        exact ⟨_, rfl, .inl HY2.out, BW.out⟩
      case false =>
        have HS := Lib.hid (HST.out (of_decide_eq_false hd)); clear hd
        go_wp2
        exact ⟨⟨j + 1, by omega, by go_num, HS.out, SB.out, BW.out⟩, by simp only [intOf]; omega⟩
    · have hjn : j = n := by omega
      subst hjn
      have HF := Lib.hid (fun i (hi : i < xs.length) => HA.out i hi (by have := HN.out; omega))
      go_wp2
      go_ret
      exact ⟨_, rfl, .inr ⟨rfl, HF.out⟩, BW.out⟩

set_option maxRecDepth 100000 in
set_option maxHeartbeats 2000000 in
theorem instAtI_any (xs : List InstD) (x : IdD) (A : Option Addr) (n c : Nat) (cs : List Value) (w : World) (hn : n = xs.length) (hwt : n ≤ 1048576) (h : Rep anyB w (.sl 38 16 n (cat InstD.c xs) .nil) [.slice A n c]) (h' : Rep anyB w x.c cs) :
    Calls Tryz.prog 33 #[.slice A n c, .agg cs.toArray] w fun e w' => ∃ q : Int, e = .returned (.int .i64 q) ∧ ((∃ (j : Nat) (hj : j < xs.length), q = (j : Int) ∧ xs[j].id = x ∧ ∀ i (hi : i < xs.length), i < j → ¬ xs[i].id = x) ∨ (q = -1 ∧ ∀ i (hi : i < xs.length), ¬ xs[i].id = x)) ∧ Below w.heap.size w w' := by
  obtain rfl := IdD.open h'
  clear h'
  obtain ⟨xr, xs'⟩ := x
  simp only []
  have HN := Lib.hid hn; clear hn
  have HR := Lib.hid h; clear h
  have hmf : ∀ (fn : Fn) (first cap : Array Value) (w : World), (Instr.makeFunc fn first cap).run Tryz.prog w = .ok (.func fn first cap) w := fun _ _ _ _ => rfl
  go_enter Tryz.func33, Tryz.ntmps33
  go_wp2_with fail
  refine (indexFn_any xs A n c w.heap.size xr xs' _ HN.out hwt (HR.out.below (by repeat' (first | with_reducible exact Below.refl _ _ | with_reducible exact BW.out | with_reducible refine Below.setCell ?_ ?_ _ | with_reducible refine Below.alloc ?_ ?_ _ | with_reducible refine Below.drew ?_ | (simp; done) | (simp; omega) | omega))) (blk_new _ _ _)).mono ?_; rintro e v1 ⟨q, rfl, hq, hb⟩
  have HQ := Lib.hid hq; clear hq
  have BW := Lib.hid (show Below w.heap.size w v1 from Below.trans (by repeat' (first | with_reducible exact Below.refl _ _ | with_reducible exact BW.out | with_reducible refine Below.setCell ?_ ?_ _ | with_reducible refine Below.alloc ?_ ?_ _ | with_reducible refine Below.drew ?_ | (simp; done) | (simp; omega) | omega)) (hb.mono (by first | (simp; done) | (simp; omega) | omega))); clear hb
  clear hmf
  go_wp2
  go_ret
  exact ⟨_, rfl, HQ.out, BW.out⟩

end Go.Proofs.YtonaacdefidomaaGreat
namespace Go.Proofs.YtonaacdefidomaaGreat
open Go.RowKit

theorem cts_two : ∀ xs : List IdD, cts IdD.cnt xs = 2 * xs.length
  | [] => rfl
  | x :: xs => by rw [cts, cts_two xs, List.length_cons]; show 1 + 1 + _ = _; omega
theorem cts_ones : ∀ xs : List (List UInt8), cts (fun _ => 1) xs = xs.length
  | [] => rfl
  | x :: xs => by rw [cts, cts_ones xs, List.length_cons]; omega
theorem InstD.wt_eq (x : InstD) : x.c.wt = (x.cmd.set.length + (x.cmd.name.length + (x.cmd.tag.length + (x.cmd.chunks.length + (cat strC x.cmd.chunks).wt + (x.deps.length + (cat IdD.c x.deps).wt + 0))))) := rfl
theorem InstD.cntT_le (x : InstD) : x.cntT ≤ 2 * x.c.wt := by
  have h1 : x.cntT = cts (fun _ => 1) x.cmd.chunks + cts IdD.cnt x.deps := by simp [InstD.cntT, CmdD.cntT]
  rw [h1, cts_two, cts_ones, InstD.wt_eq]
  omega
theorem InstD.cnt_le (x : InstD) : x.cnt ≤ 20 + 2 * x.c.wt := by
  have h1 : x.cnt = IdD.cnt x.id + 1 + 1 + 1 + CmdD.cnt x.cmd + 1 + cts IdD.cnt x.deps + 1 := rfl
  have h2 : CmdD.cnt x.cmd = 1 + 1 + 1 + 1 + 1 + 1 + 1 + cts (fun _ => 1) x.cmd.chunks := rfl
  have h3 : IdD.cnt x.id = 2 := rfl
  rw [h1, h2, h3, cts_two, cts_ones, InstD.wt_eq]
  omega
theorem InstD.cts_le : ∀ xs : List InstD, cts InstD.cnt xs ≤ 20 * xs.length + 2 * (cat InstD.c xs).wt
  | [] => by simp [cts]
  | x :: xs => by
    have := InstD.cts_le xs
    have := x.cnt_le
    rw [cts, cat_cons, Cs.wt_app, List.length_cons]
    omega
theorem bInstAt (xs : List InstD) (x : IdD) (h : xs.length + (cat InstD.c xs).wt ≤ 1048576) (_ : x.c.wt ≤ 1048576) : (fInstAt xs x).c.wt ≤ 4611686018427387 ∧ (fInstAt xs x).cntT ≤ 4611686018427387 := by
  have key : (fInstAt xs x).c.wt ≤ 1048576 := by
    unfold fInstAt
    cases hf : xs.find? (fun y => decide (y.id = x)) with
    | none => exact Nat.zero_le _
    | some y =>
      have hm := List.mem_of_find?_eq_some hf
      have := cat_wt_le (f := InstD.c) hm
      show y.c.wt ≤ _
      omega
  have := (fInstAt xs x).cntT_le
  omega

set_option maxRecDepth 100000 in
set_option maxHeartbeats 2000000 in
theorem iInstAt_any (xs : List InstD) (x : IdD) (A : Option Addr) (n c : Nat) (cs : List Value) (w : World) (hn : n = xs.length) (hwt : n + (cat InstD.c xs).wt ≤ 1048576) (_ : x.c.wt ≤ 1048576) (h : Rep anyB w (.sl 38 16 n (cat InstD.c xs) .nil) [.slice A n c]) (h' : Rep anyB w x.c cs) :
    Calls Tryz.prog 19 #[.slice A n c, .agg cs.toArray] w fun e w' => ∃ cs', e = .returned (.agg cs'.toArray) ∧ Mine w' w.heap.size (fInstAt xs x).c cs' ∧ Below w.heap.size w w' := by
  have HN := Lib.hid hn; clear hn
  have HR := Lib.hid h; clear h
  have HI := Lib.hid h'
  obtain rfl := IdD.open h'
  clear h'
  obtain ⟨R, hR⟩ : ∃ R, R = fInstAt xs x := ⟨_, rfl⟩
  rw [← hR]
  have hno := @instAt_no xs x
  rw [← hR] at hno
  have hye := fun j hj h he => (hR.trans (@instAt_yes xs x j hj h he))
  have HNO := Lib.hid hno; clear hno
  have HYE := Lib.hid hye; clear hye hR
  obtain ⟨xr, xs'⟩ := x
  simp only [] at HNO HYE HI ⊢
  have hnb : n ≤ 1048576 := by omega
  have HWT := Lib.hid hwt; clear hwt
  go_enter Tryz.func19, Tryz.ntmps19
  go_wp2_with fail
  refine (instAtI_any xs ⟨xr, xs'⟩ A n c _ _ HN.out hnb (HR.out.below (by repeat' (first | with_reducible exact Below.refl _ _ | with_reducible exact BW.out | with_reducible refine Below.setCell ?_ ?_ _ | with_reducible refine Below.alloc ?_ ?_ _ | with_reducible refine Below.drew ?_ | (simp; done) | (simp; omega) | omega))) (HI.out.below (by repeat' (first | with_reducible exact Below.refl _ _ | with_reducible exact BW.out | with_reducible refine Below.setCell ?_ ?_ _ | with_reducible refine Below.alloc ?_ ?_ _ | with_reducible refine Below.drew ?_ | (simp; done) | (simp; omega) | omega)))).mono ?_; rintro e v1 ⟨q, rfl, hq, hb⟩
  have SB := Lib.hid (Blk.below (blk2_0 _ _ _ _) hb)
  have ZB := Lib.hid (Blk.below (blk2_1 _ _ _ _) hb)
  have BW := Lib.hid (show Below w.heap.size w v1 from Below.trans (by repeat' (first | with_reducible exact Below.refl _ _ | with_reducible exact BW.out | with_reducible refine Below.setCell ?_ ?_ _ | with_reducible refine Below.alloc ?_ ?_ _ | with_reducible refine Below.drew ?_ | (simp; done) | (simp; omega) | omega)) (hb.mono (by first | (simp; done) | (simp; omega) | omega))); clear hb
  rcases hq with ⟨j, hjx, rfl, he, hall⟩ | ⟨rfl, hall⟩
  · have hRy := HYE.out j hjx hall he
    clear hall he HNO HYE
    obtain ⟨ad, ci, rfl, _, _, hrc, hl, hc⟩ := (HR.out.below BW.out).elem InstD.width j hjx HN.out
    have hwx : (xs[j].c).wt ≤ 1048576 := by have := cat_wt_le (f := InstD.c) (List.getElem_mem hjx); have := HWT.out; omega
    have hjn : j < n := by have := HN.out; omega
    rw [← hRy] at hwx hrc
    clear hRy
    have HL := Lib.hid hl; clear hl
    have HC := Lib.hid hc; clear hc
    have HRC := Lib.hid hrc; clear hrc
    go_wp2_with (first | ((with_reducible show wpList _ _ _ ({ dst := _, op := Op.load 38 _, type := _, pos := _, after := _, guard := _ } :: _) _ _); refine wpList_load_row _ (ad.add (j * 16)) rfl ci agg_Inst HL.out HC.out ?_) | fail)
    refine (copyInst_any _ ci _ hwx HRC.out).mono ?_; rintro e v2 ⟨cs', rfl, hM, hb⟩
    have HL2 := Lib.hid (show cs'.length = 16 from hM.rep.length.trans (InstD.width _))
    have HM := Lib.hid hM; clear hM
    have ZB1 := Lib.hid (ZB.out.below hb)
    have BW1 := Lib.hid (BW.out.trans (hb.mono BW.out.size))
    have HZ := Lib.hid (show w.heap.size + 1 < v1.heap.size from ZB.out.lt); clear hb
    go_wp2_with (first | ((with_reducible show wpList _ _ _ ({ dst := _, op := Op.store 38 _ _, type := _, pos := _, after := _, guard := _ } :: _) _ _); refine wpList_store_row _ (w.heap.size + 1) 38 0 cs' [] [.int .i64 0, .int .i64 0, .int .i64 0, .int .i64 0, .int .i64 0, .int .i64 0, .int .i64 0, .int .i64 0, .string ⟨#[]⟩, .string ⟨#[]⟩, .string ⟨#[]⟩, .int .i64 0, .slice none 0 0, .int .i64 0, .slice none 0 0, .bool false] [] _ rfl rfl (HL2.out ▸ agg_Inst) ZB1.out rfl rfl HL2.out.symm HM.out.rep.one ?_; intro v9 hzg0 hzg) | fail)
    have hzb : Blk v9 (w.heap.size + 1) 38 cs'.toArray := by simpa using hzg0
    obtain ⟨F, hnd, ho⟩ := HM.out
    have ho2 := ho.keep0 (base' := w.heap.size) (w' := v9) (fun b hb => by
      have h1 := ho.in b hb
      have h3 := HZ.out
      exact ⟨by omega, hzg.block b h1.2 (fun e => by injection e with e; omega)⟩)
    exact bodyPost_cell rfl ⟨w.heap.size + 1, 0, none⟩ rfl cs' agg_Inst HL2.out (blk_cells hzb) rfl ⟨_, rfl, ⟨F, hnd, ho2⟩, Below.grown BW1.out hzg BW1.out.size (fun k hk => by injection hk with hk; omega)⟩
  · have hRn := HNO.out hall
    subst hRn
    clear hall HNO HYE
    go_wp2_with (first
      | ((with_reducible show wpList _ _ _ ({ dst := _, op := Op.load 26 _, type := _, pos := _, after := _, guard := _ } :: _) _ _); refine wpList_load_row _ ⟨w.heap.size, 0, none⟩ rfl [.int .i64 xr, .int .i64 xs'] agg_Id rfl (blk_cells SB.out) ?_)
      | ((with_reducible show wpList _ _ _ ({ dst := _, op := Op.store 38 _ _, type := _, pos := _, after := _, guard := _ } :: _) _ _); refine wpList_store_row _ (w.heap.size + 1) 38 0 [.int .i64 xr, .int .i64 xs', .int .i64 (-1), .int .i64 (-1), .int .i64 0, .int .i64 0, .int .i64 0, .int .i64 0, .string (bs []), .string (bs []), .string (bs []), .int .i64 0, .slice none 0 0, .int .i64 0, .slice none 0 0, .bool false] [] [.int .i64 0, .int .i64 0, .int .i64 0, .int .i64 0, .int .i64 0, .int .i64 0, .int .i64 0, .int .i64 0, .string ⟨#[]⟩, .string ⟨#[]⟩, .string ⟨#[]⟩, .int .i64 0, .slice none 0 0, .int .i64 0, .slice none 0 0, .bool false] [] _ rfl rfl agg_Inst ZB.out rfl rfl rfl (by simp [Value.oneCell']) ?_; intro v9 hzb hzg)
      | fail)
    exact bodyPost_cell rfl ⟨w.heap.size + 1, 0, none⟩ rfl [.int .i64 xr, .int .i64 xs', .int .i64 (-1), .int .i64 (-1), .int .i64 0, .int .i64 0, .int .i64 0, .int .i64 0, .string (bs []), .string (bs []), .string (bs []), .int .i64 0, .slice none 0 0, .int .i64 0, .slice none 0 0, .bool false] agg_Inst rfl (blk_cells hzb) rfl ⟨_, rfl, newInst_mine _ _ _ _, Below.grown BW.out hzg BW.out.size (fun k hk => by injection hk with hk; omega)⟩

end Go.Proofs.YtonaacdefidomaaGreat
namespace Go.Proofs.YtonaacdefidomaaGreat
open Go.RowKit

theorem own_repI {w : World} {base e sz n c : Nat} {A : Option Addr} {i : Cs} {cells : List Value} (h : w.ownsRow base e sz (.slice A n c) n cells) (hw : i.width = n * sz) (hi : Rep anyB w i cells) : Rep anyB w (.sl e sz n i .nil) [.slice A n c] := by
  simp only [Rep]
  refine ⟨A, c, cells, [], rfl, hw, fun h0 => ?_, hi, rfl⟩
  rcases h.2 with ⟨_, h1⟩ | ⟨g, cap, cur, hv, hb, hh, _⟩
  · exact absurd h1 h0
  · injection hv with e1 _ e3
    subst e1
    exact ⟨⟨g, 0, none⟩, rfl, trivial, (Array.getElem?_eq_some_iff.1 hh).1, fun j u hu => h.cells rfl j u hu⟩
theorem id_shut (x : IdD) (w : World) : Rep anyB w x.c [.int .i64 x.rep, .int .i64 x.slot] := Rep.int.2 ⟨_, rfl, Rep.int.2 ⟨_, rfl, Rep.nil.2 rfl⟩⟩
theorem put_wt {xs : List InstD} {x : InstD} (h : ∀ y ∈ xs, (y.c).wt ≤ 1048576) (hx : x.c.wt ≤ 1048576) : ∀ y ∈ fPut xs x, (y.c).wt ≤ 1048576 := fun y hy => by
  rcases mem_putA.1 hy with ⟨rfl, _⟩ | ⟨hy, _⟩
  · exact hx
  · exact h y hy
theorem bInstPut (xs : List InstD) (x : InstD) (h : xs.length + (cat InstD.c xs).wt ≤ 1048576) (hx : x.c.wt ≤ 1048576) :
    (fInstPut xs x).length + (cat InstD.c (fInstPut xs x)).wt ≤ 4611686018427387 ∧ cts InstD.cnt (fInstPut xs x) ≤ 4611686018427387 := by
  have key : (fInstPut xs x).length ≤ xs.length + 1 ∧ (cat InstD.c (fInstPut xs x)).wt ≤ (cat InstD.c xs).wt + x.c.wt := by
    unfold fInstPut
    split
    · split
      · exact ⟨putA_len x xs false, putA_wt x xs⟩
      · exact ⟨by omega, by omega⟩
    · exact ⟨Nat.zero_le _, Nat.zero_le _⟩
  have := InstD.cts_le (fInstPut xs x)
  omega


set_option maxRecDepth 100000 in
set_option maxHeartbeats 8000000 in
theorem l8Put_any (xs : List InstD) (x : InstD) (A : Option Addr) (n c : Nat) (cs : List Value) (w : World) (hn : n = xs.length) (hn1 : n ≤ 1048576) (h : Rep anyB w (.sl 38 16 n (cat InstD.c xs) .nil) [.slice A n c]) (h' : Rep anyB w x.c cs) :
    Calls Tryz.prog 47 #[.slice A n c, .agg cs.toArray] w fun e w' => ∃ A2 m c2, e = .returned (.slice A2 m c2) ∧ m = (fPut xs x).length ∧ Rep anyB w' (.sl 38 16 m (cat InstD.c (fPut xs x)) .nil) [.slice A2 m c2] ∧ Below w.heap.size w w' := by
  have HL := Lib.hid (show cs.length = 16 from h'.length.trans (InstD.width x))
  have HX1 := Lib.hid h'.one
  have HXR := Lib.hid h'.lt
  have hxid := fun (v : World) (hb : Blk v w.heap.size 38 cs.toArray) => id_cells h' (blk_cells hb)
  have HXI := Lib.hid hxid; clear hxid h'
  have HR := Lib.hid h; clear h
  have HN := Lib.hid hn; clear hn
  have hR : fPut xs x = putA x xs false := rfl
  generalize fPut xs x = R at *
  have HRR := Lib.hid hR; clear hR
  obtain ⟨xr, xs', hxe⟩ : ∃ xr xs', x.id = ⟨xr, xs'⟩ := ⟨x.id.rep, x.id.slot, rfl⟩
  rw [hxe] at HXI
  have HXE := Lib.hid hxe; clear hxe
  go_enter Tryz.func47, Tryz.ntmps47
  go_wp2
  go_loopw [5, 6, 7] (fun oo pp ii wr => ∃ (j q : Nat) (p : Bool) (A' : Option Addr) (c' : Nat) (cells : List Value) (acc : List InstD), j ≤ n ∧ oo = .slice A' q c' ∧ pp = .bool p ∧ ii = .int .i64 (j : Int) ∧ q = acc.length ∧ q ≤ 2 * j ∧ acc ++ putA x (xs.drop j) p = R ∧ wr.ownsRow (w.heap.size + 1) 38 16 (.slice A' q c') q cells ∧ Rep (fun b => b < w.heap.size) w (cat InstD.c acc) cells ∧ Blk wr w.heap.size 38 cs.toArray ∧ Below w.heap.size w wr) (fun _ _ ii _ => n - (intOf ii).toNat)
  case atStart => exact ⟨0, 0, false, some ⟨w.heap.size + 1, 0, none⟩, 0, [], [], Nat.zero_le _, by simp, rfl, rfl, rfl, by omega, by rw [HRR.out]; rfl, by have h1 := World.ownsRow_made (base := w.heap.size + 1) (size := 16) (e := 38) (w.alloc (.cells cs.toArray 38)) #[] 0 (by simp) (by simp [maxLen]) rfl; simpa using h1, Rep.nil.2 rfl, (blk_new _ _ _).alloc _, (by repeat' (first | with_reducible exact Below.refl _ _ | with_reducible exact BW.out | with_reducible refine Below.setCell ?_ ?_ _ | with_reducible refine Below.alloc ?_ ?_ _ | with_reducible refine Below.drew ?_ | (simp; done) | (simp; omega) | omega))⟩
  case round =>
    obtain ⟨j, q, p, A', c', cells, acc, hj, rfl, rfl, rfl, hq, hqb, hT, hown, hrep, hbx, hbel⟩ := hrel
    have HQ := Lib.hid hq; clear hq
    have HO := Lib.hid hown; clear hown
    have HA := Lib.hid hrep; clear hrep
    have HBX := Lib.hid hbx; clear hbx
    have BW := Lib.hid hbel; clear hbel
    have HZ := Lib.hid (show w.heap.size + 1 ≤ wr.heap.size from HBX.out.lt)
    by_cases hlt : j < n
    · have hjx : j < xs.length := by have := HN.out; omega
      obtain ⟨ad, ci, rfl, _, hadl, hrc, hl, hc⟩ := HR.out.elem InstD.width j hjx HN.out
      have hdy : xs.drop j = xs[j] :: xs.drop (j + 1) := List.drop_eq_getElem_cons hjx
      rw [hdy, putA] at hT
      clear hdy
      have HRC := Lib.hid hrc.lt
      have H1C := Lib.hid hrc.one
      have hcall := fun (v : World) (hb : Below w.heap.size w v) f u (hv : ci[f]? = some u) => show v.cell? ((ad.add (j * 16)).add f) = some u from (hb.cell (by rw [block_of_add, block_of_add]; exact hadl)).trans (hc f u hv)
      have hyid := fun (v : World) (hb : Below w.heap.size w v) => id_cells hrc (hcall v hb)
      generalize xs[j] = y at *
      obtain ⟨yr, ys, hye⟩ : ∃ yr ys, y.id = ⟨yr, ys⟩ := ⟨y.id.rep, y.id.slot, rfl⟩
      rw [hye, HXE.out] at hT
      rw [hye] at hyid
      have HCL := Lib.hid hl; clear hl
      have HC := Lib.hid hcall; clear hcall hc
      have HYI := Lib.hid hyid; clear hyid
      clear hrc hye
      have HT := Lib.hid hT; clear hT
      cases p with
      | true =>
        have X := Lib.hid HT.out; clear HT
        have HT := Lib.hid (show acc ++ ([] ++ ((if (⟨yr, ys⟩ : IdD) = ⟨xr, xs'⟩ then [] else [y]) ++ putA x (xs.drop (j + 1)) true)) = R from X.out); clear X
        go_wp2
        refine wp_region_x 13 [0, 1, 2, 3, 4, 5, 6, 7, 8, 9, 10, 11, 12] (by kernel_rfl) (by kernel_rfl) ?_
        have X := Lib.hid HBX.out.drew; clear HBX
        have HBX := Lib.hid X.out; clear X
        have X := Lib.hid BW.out.drew; clear BW
        have BW := Lib.hid X.out; clear X
        iterate 3 (refine wpX_quiet rfl (by kernel_rfl) rfl ?_; go_wp2; refine ⟨rfl, ?_⟩)
        (iterate 6 (refine wpX_skip2 rfl rfl (by kernel_rfl) ?_)); simp only [List.setIfInBounds_toArray, List.set_cons_succ, List.set_cons_zero]; (iterate 3 (refine wpX_skip2 rfl rfl (by kernel_rfl) ?_)); simp only [List.setIfInBounds_toArray, List.set_cons_succ, List.set_cons_zero]
        iterate 1 (refine wpX_quiet rfl (by kernel_rfl) rfl ?_; go_wp2; refine ⟨rfl, ?_⟩)
        refine wpX_nil ?_; try simp only [List.drop_succ_cons, List.drop_zero]
        have X := Lib.hid (show World.ownsRow wr.drew (w.heap.size + 1) 38 16 (.slice A' q c') q cells from HO.out); clear HO
        have HO := Lib.hid X.out; clear X
        by_cases e1 : yr = xr
        · subst e1
          by_cases e2 : ys = xs'
          · subst e2
            have hT2 := HT.out
            rw [if_pos rfl] at hT2
            have HT2 := Lib.hid hT2; clear hT2
            go_wp2
            refine wp_region_x 7 [0, 1, 2, 3, 4, 5, 6] (by kernel_rfl) (by kernel_rfl) ?_
            have X := Lib.hid HBX.out.drew; clear HBX
            have HBX := Lib.hid X.out; clear X
            have X := Lib.hid BW.out.drew; clear BW
            have BW := Lib.hid X.out; clear X
            iterate 4 (refine wpX_quiet rfl (by kernel_rfl) rfl ?_; go_wp2; refine ⟨rfl, ?_⟩)
            refine wpX_quiet rfl (by kernel_rfl) rfl ?_; go_wp2_with (first | (refine wpList_load_row_g _ (by first | rfl | kernel_rfl) (ad.add (j * 16)) rfl [.int .i64 _, .int .i64 _] agg_Id rfl (HYI.out _ BW.out) ?_) | fail); refine ⟨rfl, ?_⟩
            iterate 1 (refine wpX_quiet rfl (by kernel_rfl) rfl ?_; go_wp2; refine ⟨rfl, ?_⟩)
            refine wpX_quiet rfl (by kernel_rfl) rfl ?_; go_wp2_with (first | (refine wpList_load_row_g _ (by first | rfl | kernel_rfl) ⟨w.heap.size, 0, none⟩ rfl [.int .i64 _, .int .i64 _] agg_Id rfl (HXI.out _ HBX.out) ?_) | fail); refine ⟨rfl, ?_⟩
            refine wpX_nil ?_; try simp only [List.drop_succ_cons, List.drop_zero]
            go_wp2
            exact ⟨⟨j + 1, _, true, A', c', _, _, by omega, rfl, rfl, by go_num, HQ.out, by omega, by have h0 := HT2.out; simpa [List.append_assoc] using h0, HO.out, HA.out, HBX.out, BW.out⟩, by simp only [intOf]; omega⟩
          · have e3 : (ys == xs') = false := by simpa using e2
            have hne : ¬ (⟨yr, ys⟩ : IdD) = ⟨yr, xs'⟩ := fun h => e2 (by injection h)
            have HNE := Lib.hid hne; clear hne e2
            have hT2 := HT.out
            rw [if_neg HNE.out] at hT2
            have HT2 := Lib.hid hT2; clear hT2
            go_wp2
            refine wp_region_x 7 [0, 1, 2, 3, 4, 5, 6] (by kernel_rfl) (by kernel_rfl) ?_
            have X := Lib.hid HBX.out.drew; clear HBX
            have HBX := Lib.hid X.out; clear X
            have X := Lib.hid BW.out.drew; clear BW
            have BW := Lib.hid X.out; clear X
            iterate 4 (refine wpX_quiet rfl (by kernel_rfl) rfl ?_; go_wp2; refine ⟨rfl, ?_⟩)
            refine wpX_quiet rfl (by kernel_rfl) rfl ?_; go_wp2_with (first | (refine wpList_load_row_g _ (by first | rfl | kernel_rfl) (ad.add (j * 16)) rfl [.int .i64 _, .int .i64 _] agg_Id rfl (HYI.out _ BW.out) ?_) | fail); refine ⟨rfl, ?_⟩
            iterate 1 (refine wpX_quiet rfl (by kernel_rfl) rfl ?_; go_wp2; refine ⟨rfl, ?_⟩)
            refine wpX_quiet rfl (by kernel_rfl) rfl ?_; go_wp2_with (first | (refine wpList_load_row_g _ (by first | rfl | kernel_rfl) ⟨w.heap.size, 0, none⟩ rfl [.int .i64 _, .int .i64 _] agg_Id rfl (HXI.out _ HBX.out) ?_) | fail); refine ⟨rfl, ?_⟩
            refine wpX_nil ?_; try simp only [List.drop_succ_cons, List.drop_zero]
            go_wp2_with (first
              | ((with_reducible show wpList _ _ _ ({ dst := _, op := Op.load 38 _, type := _, pos := _, after := _, guard := _ } :: _) _ _); refine wpList_load_row _ (ad.add (j * 16)) rfl ci agg_Inst HCL.out (HC.out _ BW.out) ?_)
              | ((with_reducible show wpList _ _ _ ({ dst := _, op := Op.buildSlice _ _ _, type := _, pos := _, after := _, guard := _ } :: _) _ _); go_must (refine wpList_build1 rfl (.tmp 44) rfl ci HCL.out rfl ?_))
              | (at_builtin; go_must (refine wpList_app E_Inst _ rfl (.tmp 40) (.tmp 45) rfl (w.heap.size + 1) _ q cells rfl (HO.out.alloc _) _ _ _ _ rfl (Reads.new (e := 38) (by simp [HCL.out])) H1C.out (by omega) (by have h1 := HZ.out; simp; omega) ?_; intro vy w5 hown5 hg5 hat5; have hgb := HO.out.lt; obtain ⟨Avy, kvy, rfl, _⟩ := SlR.of_own hown5; have X := Lib.hid (show Blk w5 w.heap.size 38 cs.toArray from (HBX.out.alloc _).keep (hg5.block _ (HBX.out.alloc _).lt (fun e => by have h7 := (hgb _ e.symm).1; omega))); clear HBX; have HBX := Lib.hid X.out; clear X; have X := Lib.hid (show Below w.heap.size w w5 from Below.grown (BW.out.alloc BW.out.size _) hg5 (Nat.le_trans BW.out.size (by simp)) (fun k' hk => by have h7 := (hgb _ hk).1; omega)); clear BW; have BW := Lib.hid X.out; clear X; have X := Lib.hid (show w.heap.size + 1 ≤ w5.heap.size from HBX.out.lt); clear HZ; have HZ := Lib.hid X.out; clear X; have X := Lib.hid (show Rep (fun b => b < w.heap.size) w (cat InstD.c (acc ++ [y])) (cells ++ ci) from by rw [cat_app, cat_one]; exact Rep.app.2 ⟨_, _, rfl, HA.out, HRC.out⟩); clear HA; have HA := Lib.hid X.out; clear X; clear HO; have HO := Lib.hid hown5; clear hown5 hg5 hat5 hgb))
              | fail)
            exact ⟨⟨j + 1, _, true, Avy, kvy, _, _, by omega, rfl, rfl, by go_num, by have h0 := HQ.out; simp; omega, by omega, by have h0 := HT2.out; simpa [List.append_assoc] using h0, HO.out, HA.out, HBX.out, BW.out⟩, by simp only [intOf]; omega⟩
        · have e3 : (yr == xr) = false := by simpa using e1
          have hne : ¬ (⟨yr, ys⟩ : IdD) = ⟨xr, xs'⟩ := fun h => e1 (by injection h)
          have HNE := Lib.hid hne; clear hne e1
          have hT2 := HT.out
          rw [if_neg HNE.out] at hT2
          have HT2 := Lib.hid hT2; clear hT2
          go_wp2
          refine wp_region_x 7 [0, 1, 2, 3, 4, 5, 6] (by kernel_rfl) (by kernel_rfl) ?_
          have X := Lib.hid HBX.out.drew; clear HBX
          have HBX := Lib.hid X.out; clear X
          have X := Lib.hid BW.out.drew; clear BW
          have BW := Lib.hid X.out; clear X
          iterate 4 (refine wpX_quiet rfl (by kernel_rfl) rfl ?_; go_wp2; refine ⟨rfl, ?_⟩)
          refine wpX_quiet rfl (by kernel_rfl) rfl ?_; go_wp2_with (first | (refine wpList_load_row_g _ (by first | rfl | kernel_rfl) (ad.add (j * 16)) rfl [.int .i64 _, .int .i64 _] agg_Id rfl (HYI.out _ BW.out) ?_) | fail); refine ⟨rfl, ?_⟩
          iterate 1 (refine wpX_quiet rfl (by kernel_rfl) rfl ?_; go_wp2; refine ⟨rfl, ?_⟩)
          refine wpX_quiet rfl (by kernel_rfl) rfl ?_; go_wp2_with (first | (refine wpList_load_row_g _ (by first | rfl | kernel_rfl) ⟨w.heap.size, 0, none⟩ rfl [.int .i64 _, .int .i64 _] agg_Id rfl (HXI.out _ HBX.out) ?_) | fail); refine ⟨rfl, ?_⟩
          refine wpX_nil ?_; try simp only [List.drop_succ_cons, List.drop_zero]
          go_wp2_with (first
            | ((with_reducible show wpList _ _ _ ({ dst := _, op := Op.load 38 _, type := _, pos := _, after := _, guard := _ } :: _) _ _); refine wpList_load_row _ (ad.add (j * 16)) rfl ci agg_Inst HCL.out (HC.out _ BW.out) ?_)
            | ((with_reducible show wpList _ _ _ ({ dst := _, op := Op.buildSlice _ _ _, type := _, pos := _, after := _, guard := _ } :: _) _ _); go_must (refine wpList_build1 rfl (.tmp 44) rfl ci HCL.out rfl ?_))
            | (at_builtin; go_must (refine wpList_app E_Inst _ rfl (.tmp 40) (.tmp 45) rfl (w.heap.size + 1) _ q cells rfl (HO.out.alloc _) _ _ _ _ rfl (Reads.new (e := 38) (by simp [HCL.out])) H1C.out (by omega) (by have h1 := HZ.out; simp; omega) ?_; intro vy w5 hown5 hg5 hat5; have hgb := HO.out.lt; obtain ⟨Avy, kvy, rfl, _⟩ := SlR.of_own hown5; have X := Lib.hid (show Blk w5 w.heap.size 38 cs.toArray from (HBX.out.alloc _).keep (hg5.block _ (HBX.out.alloc _).lt (fun e => by have h7 := (hgb _ e.symm).1; omega))); clear HBX; have HBX := Lib.hid X.out; clear X; have X := Lib.hid (show Below w.heap.size w w5 from Below.grown (BW.out.alloc BW.out.size _) hg5 (Nat.le_trans BW.out.size (by simp)) (fun k' hk => by have h7 := (hgb _ hk).1; omega)); clear BW; have BW := Lib.hid X.out; clear X; have X := Lib.hid (show w.heap.size + 1 ≤ w5.heap.size from HBX.out.lt); clear HZ; have HZ := Lib.hid X.out; clear X; have X := Lib.hid (show Rep (fun b => b < w.heap.size) w (cat InstD.c (acc ++ [y])) (cells ++ ci) from by rw [cat_app, cat_one]; exact Rep.app.2 ⟨_, _, rfl, HA.out, HRC.out⟩); clear HA; have HA := Lib.hid X.out; clear X; clear HO; have HO := Lib.hid hown5; clear hown5 hg5 hat5 hgb))
            | fail)
          exact ⟨⟨j + 1, _, true, Avy, kvy, _, _, by omega, rfl, rfl, by go_num, by have h0 := HQ.out; simp; omega, by omega, by have h0 := HT2.out; simpa [List.append_assoc] using h0, HO.out, HA.out, HBX.out, BW.out⟩, by simp only [intOf]; omega⟩
      | false =>
        cases hlt2 : idLt ⟨yr, ys⟩ ⟨xr, xs'⟩ with
        | true =>
          rw [hlt2] at HT
          have HLT := Lib.hid hlt2
          have X := Lib.hid HT.out; clear HT
          have HT := Lib.hid (show acc ++ ([] ++ ((if (⟨yr, ys⟩ : IdD) = ⟨xr, xs'⟩ then [] else [y]) ++ putA x (xs.drop (j + 1)) false)) = R from X.out); clear X
          go_wp2
          refine wp_region_x 13 [0, 1, 2, 3, 4, 5, 6, 7, 8, 9, 10, 11, 12] (by kernel_rfl) (by kernel_rfl) ?_
          have X := Lib.hid HBX.out.drew; clear HBX
          have HBX := Lib.hid X.out; clear X
          have X := Lib.hid BW.out.drew; clear BW
          have BW := Lib.hid X.out; clear X
          iterate 7 (refine wpX_quiet rfl (by kernel_rfl) rfl ?_; go_wp2; refine ⟨rfl, ?_⟩)
          refine wpX_quiet rfl (by kernel_rfl) rfl ?_; go_wp2_with (first | (refine wpList_load_row_g _ (by first | rfl | kernel_rfl) (ad.add (j * 16)) rfl [.int .i64 _, .int .i64 _] agg_Id rfl (HYI.out _ BW.out) ?_) | fail); refine ⟨rfl, ?_⟩
          iterate 1 (refine wpX_quiet rfl (by kernel_rfl) rfl ?_; go_wp2; refine ⟨rfl, ?_⟩)
          refine wpX_quiet rfl (by kernel_rfl) rfl ?_; go_wp2_with (first | (refine wpList_load_row_g _ (by first | rfl | kernel_rfl) ⟨w.heap.size, 0, none⟩ rfl [.int .i64 _, .int .i64 _] agg_Id rfl (HXI.out _ HBX.out) ?_) | fail); refine ⟨rfl, ?_⟩
          refine wpX_actor rfl (by kernel_rfl) ?_; go_wp2_with fail
          refine (l8Less_any ⟨yr, ys⟩ ⟨xr, xs'⟩ _ _ _ (id_shut _ _) (id_shut _ _)).mono ?_
          rintro e v6 ⟨rfl, hb6⟩
          rw [HLT.out]
          have HB6 := Lib.hid hb6; clear hb6
          have X := Lib.hid (HBX.out.below HB6.out); clear HBX
          have HBX := Lib.hid X.out; clear X
          have X := Lib.hid (BW.out.trans (HB6.out.mono BW.out.size)); clear BW
          have BW := Lib.hid X.out; clear X
          have X := Lib.hid (show World.ownsRow v6 (w.heap.size + 1) 38 16 (.slice A' q c') q cells from World.ownsRow.keptBelowJ (w := wr.drew) HO.out HB6.out); clear HO
          have HO := Lib.hid X.out; clear X
          have X := Lib.hid (show w.heap.size + 1 ≤ v6.heap.size from HBX.out.lt); clear HZ
          have HZ := Lib.hid X.out; clear X
          go_wp2; refine ⟨Ext.of_below HB6.out, ?_⟩
          clear HB6
          iterate 2 (refine wpX_quiet rfl (by kernel_rfl) rfl ?_; go_wp2; refine ⟨rfl, ?_⟩)
          refine wpX_nil ?_; try simp only [List.drop_succ_cons, List.drop_zero]
          by_cases e1 : yr = xr
          · subst e1
            by_cases e2 : ys = xs'
            · subst e2
              rw [idLt_irrefl] at hlt2; cases hlt2
            · have e3 : (ys == xs') = false := by simpa using e2
              have hne : ¬ (⟨yr, ys⟩ : IdD) = ⟨yr, xs'⟩ := fun h => e2 (by injection h)
              have HNE := Lib.hid hne; clear hne e2
              have hT2 := HT.out
              rw [if_neg HNE.out] at hT2
              have HT2 := Lib.hid hT2; clear hT2
              go_wp2
              refine wp_region_x 7 [0, 1, 2, 3, 4, 5, 6] (by kernel_rfl) (by kernel_rfl) ?_
              have X := Lib.hid HBX.out.drew; clear HBX
              have HBX := Lib.hid X.out; clear X
              have X := Lib.hid BW.out.drew; clear BW
              have BW := Lib.hid X.out; clear X
              iterate 4 (refine wpX_quiet rfl (by kernel_rfl) rfl ?_; go_wp2; refine ⟨rfl, ?_⟩)
              refine wpX_quiet rfl (by kernel_rfl) rfl ?_; go_wp2_with (first | (refine wpList_load_row_g _ (by first | rfl | kernel_rfl) (ad.add (j * 16)) rfl [.int .i64 _, .int .i64 _] agg_Id rfl (HYI.out _ BW.out) ?_) | fail); refine ⟨rfl, ?_⟩
              iterate 1 (refine wpX_quiet rfl (by kernel_rfl) rfl ?_; go_wp2; refine ⟨rfl, ?_⟩)
              refine wpX_quiet rfl (by kernel_rfl) rfl ?_; go_wp2_with (first | (refine wpList_load_row_g _ (by first | rfl | kernel_rfl) ⟨w.heap.size, 0, none⟩ rfl [.int .i64 _, .int .i64 _] agg_Id rfl (HXI.out _ HBX.out) ?_) | fail); refine ⟨rfl, ?_⟩
              refine wpX_nil ?_; try simp only [List.drop_succ_cons, List.drop_zero]
              go_wp2_with (first
                | ((with_reducible show wpList _ _ _ ({ dst := _, op := Op.load 38 _, type := _, pos := _, after := _, guard := _ } :: _) _ _); refine wpList_load_row _ (ad.add (j * 16)) rfl ci agg_Inst HCL.out (HC.out _ BW.out) ?_)
                | ((with_reducible show wpList _ _ _ ({ dst := _, op := Op.buildSlice _ _ _, type := _, pos := _, after := _, guard := _ } :: _) _ _); go_must (refine wpList_build1 rfl (.tmp 44) rfl ci HCL.out rfl ?_))
                | (at_builtin; go_must (refine wpList_app E_Inst _ rfl (.tmp 40) (.tmp 45) rfl (w.heap.size + 1) _ q cells rfl (HO.out.alloc _) _ _ _ _ rfl (Reads.new (e := 38) (by simp [HCL.out])) H1C.out (by omega) (by have h1 := HZ.out; simp; omega) ?_; intro vy w5 hown5 hg5 hat5; have hgb := HO.out.lt; obtain ⟨Avy, kvy, rfl, _⟩ := SlR.of_own hown5; have X := Lib.hid (show Blk w5 w.heap.size 38 cs.toArray from (HBX.out.alloc _).keep (hg5.block _ (HBX.out.alloc _).lt (fun e => by have h7 := (hgb _ e.symm).1; omega))); clear HBX; have HBX := Lib.hid X.out; clear X; have X := Lib.hid (show Below w.heap.size w w5 from Below.grown (BW.out.alloc BW.out.size _) hg5 (Nat.le_trans BW.out.size (by simp)) (fun k' hk => by have h7 := (hgb _ hk).1; omega)); clear BW; have BW := Lib.hid X.out; clear X; have X := Lib.hid (show w.heap.size + 1 ≤ w5.heap.size from HBX.out.lt); clear HZ; have HZ := Lib.hid X.out; clear X; have X := Lib.hid (show Rep (fun b => b < w.heap.size) w (cat InstD.c (acc ++ [y])) (cells ++ ci) from by rw [cat_app, cat_one]; exact Rep.app.2 ⟨_, _, rfl, HA.out, HRC.out⟩); clear HA; have HA := Lib.hid X.out; clear X; clear HO; have HO := Lib.hid hown5; clear hown5 hg5 hat5 hgb))
                | fail)
              exact ⟨⟨j + 1, _, false, Avy, kvy, _, _, by omega, rfl, rfl, by go_num, by have h0 := HQ.out; simp; omega, by omega, by have h0 := HT2.out; simpa [List.append_assoc] using h0, HO.out, HA.out, HBX.out, BW.out⟩, by simp only [intOf]; omega⟩
          · have e3 : (yr == xr) = false := by simpa using e1
            have hne : ¬ (⟨yr, ys⟩ : IdD) = ⟨xr, xs'⟩ := fun h => e1 (by injection h)
            have HNE := Lib.hid hne; clear hne e1
            have hT2 := HT.out
            rw [if_neg HNE.out] at hT2
            have HT2 := Lib.hid hT2; clear hT2
            go_wp2
            refine wp_region_x 7 [0, 1, 2, 3, 4, 5, 6] (by kernel_rfl) (by kernel_rfl) ?_
            have X := Lib.hid HBX.out.drew; clear HBX
            have HBX := Lib.hid X.out; clear X
            have X := Lib.hid BW.out.drew; clear BW
            have BW := Lib.hid X.out; clear X
            iterate 4 (refine wpX_quiet rfl (by kernel_rfl) rfl ?_; go_wp2; refine ⟨rfl, ?_⟩)
            refine wpX_quiet rfl (by kernel_rfl) rfl ?_; go_wp2_with (first | (refine wpList_load_row_g _ (by first | rfl | kernel_rfl) (ad.add (j * 16)) rfl [.int .i64 _, .int .i64 _] agg_Id rfl (HYI.out _ BW.out) ?_) | fail); refine ⟨rfl, ?_⟩
            iterate 1 (refine wpX_quiet rfl (by kernel_rfl) rfl ?_; go_wp2; refine ⟨rfl, ?_⟩)
            refine wpX_quiet rfl (by kernel_rfl) rfl ?_; go_wp2_with (first | (refine wpList_load_row_g _ (by first | rfl | kernel_rfl) ⟨w.heap.size, 0, none⟩ rfl [.int .i64 _, .int .i64 _] agg_Id rfl (HXI.out _ HBX.out) ?_) | fail); refine ⟨rfl, ?_⟩
            refine wpX_nil ?_; try simp only [List.drop_succ_cons, List.drop_zero]
            go_wp2_with (first
              | ((with_reducible show wpList _ _ _ ({ dst := _, op := Op.load 38 _, type := _, pos := _, after := _, guard := _ } :: _) _ _); refine wpList_load_row _ (ad.add (j * 16)) rfl ci agg_Inst HCL.out (HC.out _ BW.out) ?_)
              | ((with_reducible show wpList _ _ _ ({ dst := _, op := Op.buildSlice _ _ _, type := _, pos := _, after := _, guard := _ } :: _) _ _); go_must (refine wpList_build1 rfl (.tmp 44) rfl ci HCL.out rfl ?_))
              | (at_builtin; go_must (refine wpList_app E_Inst _ rfl (.tmp 40) (.tmp 45) rfl (w.heap.size + 1) _ q cells rfl (HO.out.alloc _) _ _ _ _ rfl (Reads.new (e := 38) (by simp [HCL.out])) H1C.out (by omega) (by have h1 := HZ.out; simp; omega) ?_; intro vy w5 hown5 hg5 hat5; have hgb := HO.out.lt; obtain ⟨Avy, kvy, rfl, _⟩ := SlR.of_own hown5; have X := Lib.hid (show Blk w5 w.heap.size 38 cs.toArray from (HBX.out.alloc _).keep (hg5.block _ (HBX.out.alloc _).lt (fun e => by have h7 := (hgb _ e.symm).1; omega))); clear HBX; have HBX := Lib.hid X.out; clear X; have X := Lib.hid (show Below w.heap.size w w5 from Below.grown (BW.out.alloc BW.out.size _) hg5 (Nat.le_trans BW.out.size (by simp)) (fun k' hk => by have h7 := (hgb _ hk).1; omega)); clear BW; have BW := Lib.hid X.out; clear X; have X := Lib.hid (show w.heap.size + 1 ≤ w5.heap.size from HBX.out.lt); clear HZ; have HZ := Lib.hid X.out; clear X; have X := Lib.hid (show Rep (fun b => b < w.heap.size) w (cat InstD.c (acc ++ [y])) (cells ++ ci) from by rw [cat_app, cat_one]; exact Rep.app.2 ⟨_, _, rfl, HA.out, HRC.out⟩); clear HA; have HA := Lib.hid X.out; clear X; clear HO; have HO := Lib.hid hown5; clear hown5 hg5 hat5 hgb))
              | fail)
            exact ⟨⟨j + 1, _, false, Avy, kvy, _, _, by omega, rfl, rfl, by go_num, by have h0 := HQ.out; simp; omega, by omega, by have h0 := HT2.out; simpa [List.append_assoc] using h0, HO.out, HA.out, HBX.out, BW.out⟩, by simp only [intOf]; omega⟩
        | false =>
          rw [hlt2] at HT
          have HLT := Lib.hid hlt2; clear hlt2
          have X := Lib.hid HT.out; clear HT
          have HT := Lib.hid (show (acc ++ [x]) ++ ((if (⟨yr, ys⟩ : IdD) = ⟨xr, xs'⟩ then [] else [y]) ++ putA x (xs.drop (j + 1)) true) = R from by rw [List.append_assoc]; exact X.out); clear X
          go_wp2
          refine wp_region_x 13 [0, 1, 2, 3, 4, 5, 6, 7, 8, 9, 10, 11, 12] (by kernel_rfl) (by kernel_rfl) ?_
          have X := Lib.hid HBX.out.drew; clear HBX
          have HBX := Lib.hid X.out; clear X
          have X := Lib.hid BW.out.drew; clear BW
          have BW := Lib.hid X.out; clear X
          iterate 7 (refine wpX_quiet rfl (by kernel_rfl) rfl ?_; go_wp2; refine ⟨rfl, ?_⟩)
          refine wpX_quiet rfl (by kernel_rfl) rfl ?_; go_wp2_with (first | (refine wpList_load_row_g _ (by first | rfl | kernel_rfl) (ad.add (j * 16)) rfl [.int .i64 _, .int .i64 _] agg_Id rfl (HYI.out _ BW.out) ?_) | fail); refine ⟨rfl, ?_⟩
          iterate 1 (refine wpX_quiet rfl (by kernel_rfl) rfl ?_; go_wp2; refine ⟨rfl, ?_⟩)
          refine wpX_quiet rfl (by kernel_rfl) rfl ?_; go_wp2_with (first | (refine wpList_load_row_g _ (by first | rfl | kernel_rfl) ⟨w.heap.size, 0, none⟩ rfl [.int .i64 _, .int .i64 _] agg_Id rfl (HXI.out _ HBX.out) ?_) | fail); refine ⟨rfl, ?_⟩
          refine wpX_actor rfl (by kernel_rfl) ?_; go_wp2_with fail
          refine (l8Less_any ⟨yr, ys⟩ ⟨xr, xs'⟩ _ _ _ (id_shut _ _) (id_shut _ _)).mono ?_
          rintro e v6 ⟨rfl, hb6⟩
          rw [HLT.out]
          have HB6 := Lib.hid hb6; clear hb6
          have X := Lib.hid (HBX.out.below HB6.out); clear HBX
          have HBX := Lib.hid X.out; clear X
          have X := Lib.hid (BW.out.trans (HB6.out.mono BW.out.size)); clear BW
          have BW := Lib.hid X.out; clear X
          have X := Lib.hid (show World.ownsRow v6 (w.heap.size + 1) 38 16 (.slice A' q c') q cells from World.ownsRow.keptBelowJ (w := wr.drew) HO.out HB6.out); clear HO
          have HO := Lib.hid X.out; clear X
          have X := Lib.hid (show w.heap.size + 1 ≤ v6.heap.size from HBX.out.lt); clear HZ
          have HZ := Lib.hid X.out; clear X
          go_wp2; refine ⟨Ext.of_below HB6.out, ?_⟩
          clear HB6
          iterate 2 (refine wpX_quiet rfl (by kernel_rfl) rfl ?_; go_wp2; refine ⟨rfl, ?_⟩)
          refine wpX_nil ?_; try simp only [List.drop_succ_cons, List.drop_zero]
          go_wp2_with (first
            | ((with_reducible show wpList _ _ _ ({ dst := _, op := Op.load 38 _, type := _, pos := _, after := _, guard := _ } :: _) _ _); refine wpList_load_row _ ⟨w.heap.size, 0, none⟩ rfl cs agg_Inst HL.out (blk_cells HBX.out) ?_)
            | ((with_reducible show wpList _ _ _ ({ dst := _, op := Op.buildSlice _ _ _, type := _, pos := _, after := _, guard := _ } :: _) _ _); go_must (refine wpList_build1 rfl (.tmp 29) rfl cs HL.out rfl ?_))
            | (at_builtin; go_must (refine wpList_app E_Inst _ rfl (.tmp 28) (.tmp 30) rfl (w.heap.size + 1) _ q cells rfl (HO.out.alloc _) _ _ _ _ rfl (Reads.new (e := 38) (by simp [HL.out])) HX1.out (by omega) (by have h1 := HZ.out; simp; omega) ?_; intro vx w5 hown5 hg5 hat5; have hgb := HO.out.lt; obtain ⟨Avx, kvx, rfl, _⟩ := SlR.of_own hown5; have X := Lib.hid (show Blk w5 w.heap.size 38 cs.toArray from (HBX.out.alloc _).keep (hg5.block _ (HBX.out.alloc _).lt (fun e => by have h7 := (hgb _ e.symm).1; omega))); clear HBX; have HBX := Lib.hid X.out; clear X; have X := Lib.hid (show Below w.heap.size w w5 from Below.grown (BW.out.alloc BW.out.size _) hg5 (Nat.le_trans BW.out.size (by simp)) (fun k' hk => by have h7 := (hgb _ hk).1; omega)); clear BW; have BW := Lib.hid X.out; clear X; have X := Lib.hid (show w.heap.size + 1 ≤ w5.heap.size from HBX.out.lt); clear HZ; have HZ := Lib.hid X.out; clear X; have X := Lib.hid (show Rep (fun b => b < w.heap.size) w (cat InstD.c (acc ++ [x])) (cells ++ cs) from by rw [cat_app, cat_one]; exact Rep.app.2 ⟨_, _, rfl, HA.out, HXR.out⟩); clear HA; have HA := Lib.hid X.out; clear X; clear HO; have HO := Lib.hid hown5; clear hown5 hg5 hat5 hgb))
            | fail)
          by_cases e1 : yr = xr
          · subst e1
            by_cases e2 : ys = xs'
            · subst e2
              have hT2 := HT.out
              rw [if_pos rfl] at hT2
              have HT2 := Lib.hid hT2; clear hT2
              go_wp2
              refine wp_region_x 7 [0, 1, 2, 3, 4, 5, 6] (by kernel_rfl) (by kernel_rfl) ?_
              have X := Lib.hid HBX.out.drew; clear HBX
              have HBX := Lib.hid X.out; clear X
              have X := Lib.hid BW.out.drew; clear BW
              have BW := Lib.hid X.out; clear X
              iterate 4 (refine wpX_quiet rfl (by kernel_rfl) rfl ?_; go_wp2; refine ⟨rfl, ?_⟩)
              refine wpX_quiet rfl (by kernel_rfl) rfl ?_; go_wp2_with (first | (refine wpList_load_row_g _ (by first | rfl | kernel_rfl) (ad.add (j * 16)) rfl [.int .i64 _, .int .i64 _] agg_Id rfl (HYI.out _ BW.out) ?_) | fail); refine ⟨rfl, ?_⟩
              iterate 1 (refine wpX_quiet rfl (by kernel_rfl) rfl ?_; go_wp2; refine ⟨rfl, ?_⟩)
              refine wpX_quiet rfl (by kernel_rfl) rfl ?_; go_wp2_with (first | (refine wpList_load_row_g _ (by first | rfl | kernel_rfl) ⟨w.heap.size, 0, none⟩ rfl [.int .i64 _, .int .i64 _] agg_Id rfl (HXI.out _ HBX.out) ?_) | fail); refine ⟨rfl, ?_⟩
              refine wpX_nil ?_; try simp only [List.drop_succ_cons, List.drop_zero]
              go_wp2
              exact ⟨⟨j + 1, _, true, Avx, kvx, _, _, by omega, rfl, rfl, by go_num, by have h0 := HQ.out; simp; omega, by omega, by have h0 := HT2.out; simpa [List.append_assoc] using h0, HO.out, HA.out, HBX.out, BW.out⟩, by simp only [intOf]; omega⟩
            · have e3 : (ys == xs') = false := by simpa using e2
              have hne : ¬ (⟨yr, ys⟩ : IdD) = ⟨yr, xs'⟩ := fun h => e2 (by injection h)
              have HNE := Lib.hid hne; clear hne e2
              have hT2 := HT.out
              rw [if_neg HNE.out] at hT2
              have HT2 := Lib.hid hT2; clear hT2
              go_wp2
              refine wp_region_x 7 [0, 1, 2, 3, 4, 5, 6] (by kernel_rfl) (by kernel_rfl) ?_
              have X := Lib.hid HBX.out.drew; clear HBX
              have HBX := Lib.hid X.out; clear X
              have X := Lib.hid BW.out.drew; clear BW
              have BW := Lib.hid X.out; clear X
              iterate 4 (refine wpX_quiet rfl (by kernel_rfl) rfl ?_; go_wp2; refine ⟨rfl, ?_⟩)
              refine wpX_quiet rfl (by kernel_rfl) rfl ?_; go_wp2_with (first | (refine wpList_load_row_g _ (by first | rfl | kernel_rfl) (ad.add (j * 16)) rfl [.int .i64 _, .int .i64 _] agg_Id rfl (HYI.out _ BW.out) ?_) | fail); refine ⟨rfl, ?_⟩
              iterate 1 (refine wpX_quiet rfl (by kernel_rfl) rfl ?_; go_wp2; refine ⟨rfl, ?_⟩)
              refine wpX_quiet rfl (by kernel_rfl) rfl ?_; go_wp2_with (first | (refine wpList_load_row_g _ (by first | rfl | kernel_rfl) ⟨w.heap.size, 0, none⟩ rfl [.int .i64 _, .int .i64 _] agg_Id rfl (HXI.out _ HBX.out) ?_) | fail); refine ⟨rfl, ?_⟩
              refine wpX_nil ?_; try simp only [List.drop_succ_cons, List.drop_zero]
              go_wp2_with (first
                | ((with_reducible show wpList _ _ _ ({ dst := _, op := Op.load 38 _, type := _, pos := _, after := _, guard := _ } :: _) _ _); refine wpList_load_row _ (ad.add (j * 16)) rfl ci agg_Inst HCL.out (HC.out _ BW.out) ?_)
                | ((with_reducible show wpList _ _ _ ({ dst := _, op := Op.buildSlice _ _ _, type := _, pos := _, after := _, guard := _ } :: _) _ _); go_must (refine wpList_build1 rfl (.tmp 44) rfl ci HCL.out rfl ?_))
                | (at_builtin; go_must (refine wpList_app E_Inst _ rfl (.tmp 40) (.tmp 45) rfl (w.heap.size + 1) _ (q + 1) (cells ++ cs) rfl (HO.out.alloc _) _ _ _ _ rfl (Reads.new (e := 38) (by simp [HCL.out])) H1C.out (by omega) (by have h1 := HZ.out; simp; omega) ?_; intro vxy w5 hown5 hg5 hat5; have hgb := HO.out.lt; obtain ⟨Avxy, kvxy, rfl, _⟩ := SlR.of_own hown5; have X := Lib.hid (show Blk w5 w.heap.size 38 cs.toArray from (HBX.out.alloc _).keep (hg5.block _ (HBX.out.alloc _).lt (fun e => by have h7 := (hgb _ e.symm).1; omega))); clear HBX; have HBX := Lib.hid X.out; clear X; have X := Lib.hid (show Below w.heap.size w w5 from Below.grown (BW.out.alloc BW.out.size _) hg5 (Nat.le_trans BW.out.size (by simp)) (fun k' hk => by have h7 := (hgb _ hk).1; omega)); clear BW; have BW := Lib.hid X.out; clear X; have X := Lib.hid (show w.heap.size + 1 ≤ w5.heap.size from HBX.out.lt); clear HZ; have HZ := Lib.hid X.out; clear X; have X := Lib.hid (show Rep (fun b => b < w.heap.size) w (cat InstD.c ((acc ++ [x]) ++ [y])) ((cells ++ cs) ++ ci) from by rw [cat_app, cat_one]; exact Rep.app.2 ⟨_, _, rfl, HA.out, HRC.out⟩); clear HA; have HA := Lib.hid X.out; clear X; clear HO; have HO := Lib.hid hown5; clear hown5 hg5 hat5 hgb))
                | fail)
              exact ⟨⟨j + 1, _, true, Avxy, kvxy, _, _, by omega, rfl, rfl, by go_num, by have h0 := HQ.out; simp; omega, by omega, by have h0 := HT2.out; simpa [List.append_assoc] using h0, HO.out, HA.out, HBX.out, BW.out⟩, by simp only [intOf]; omega⟩
          · have e3 : (yr == xr) = false := by simpa using e1
            have hne : ¬ (⟨yr, ys⟩ : IdD) = ⟨xr, xs'⟩ := fun h => e1 (by injection h)
            have HNE := Lib.hid hne; clear hne e1
            have hT2 := HT.out
            rw [if_neg HNE.out] at hT2
            have HT2 := Lib.hid hT2; clear hT2
            go_wp2
            refine wp_region_x 7 [0, 1, 2, 3, 4, 5, 6] (by kernel_rfl) (by kernel_rfl) ?_
            have X := Lib.hid HBX.out.drew; clear HBX
            have HBX := Lib.hid X.out; clear X
            have X := Lib.hid BW.out.drew; clear BW
            have BW := Lib.hid X.out; clear X
            iterate 4 (refine wpX_quiet rfl (by kernel_rfl) rfl ?_; go_wp2; refine ⟨rfl, ?_⟩)
            refine wpX_quiet rfl (by kernel_rfl) rfl ?_; go_wp2_with (first | (refine wpList_load_row_g _ (by first | rfl | kernel_rfl) (ad.add (j * 16)) rfl [.int .i64 _, .int .i64 _] agg_Id rfl (HYI.out _ BW.out) ?_) | fail); refine ⟨rfl, ?_⟩
            iterate 1 (refine wpX_quiet rfl (by kernel_rfl) rfl ?_; go_wp2; refine ⟨rfl, ?_⟩)
            refine wpX_quiet rfl (by kernel_rfl) rfl ?_; go_wp2_with (first | (refine wpList_load_row_g _ (by first | rfl | kernel_rfl) ⟨w.heap.size, 0, none⟩ rfl [.int .i64 _, .int .i64 _] agg_Id rfl (HXI.out _ HBX.out) ?_) | fail); refine ⟨rfl, ?_⟩
            refine wpX_nil ?_; try simp only [List.drop_succ_cons, List.drop_zero]
            go_wp2_with (first
              | ((with_reducible show wpList _ _ _ ({ dst := _, op := Op.load 38 _, type := _, pos := _, after := _, guard := _ } :: _) _ _); refine wpList_load_row _ (ad.add (j * 16)) rfl ci agg_Inst HCL.out (HC.out _ BW.out) ?_)
              | ((with_reducible show wpList _ _ _ ({ dst := _, op := Op.buildSlice _ _ _, type := _, pos := _, after := _, guard := _ } :: _) _ _); go_must (refine wpList_build1 rfl (.tmp 44) rfl ci HCL.out rfl ?_))
              | (at_builtin; go_must (refine wpList_app E_Inst _ rfl (.tmp 40) (.tmp 45) rfl (w.heap.size + 1) _ (q + 1) (cells ++ cs) rfl (HO.out.alloc _) _ _ _ _ rfl (Reads.new (e := 38) (by simp [HCL.out])) H1C.out (by omega) (by have h1 := HZ.out; simp; omega) ?_; intro vxy w5 hown5 hg5 hat5; have hgb := HO.out.lt; obtain ⟨Avxy, kvxy, rfl, _⟩ := SlR.of_own hown5; have X := Lib.hid (show Blk w5 w.heap.size 38 cs.toArray from (HBX.out.alloc _).keep (hg5.block _ (HBX.out.alloc _).lt (fun e => by have h7 := (hgb _ e.symm).1; omega))); clear HBX; have HBX := Lib.hid X.out; clear X; have X := Lib.hid (show Below w.heap.size w w5 from Below.grown (BW.out.alloc BW.out.size _) hg5 (Nat.le_trans BW.out.size (by simp)) (fun k' hk => by have h7 := (hgb _ hk).1; omega)); clear BW; have BW := Lib.hid X.out; clear X; have X := Lib.hid (show w.heap.size + 1 ≤ w5.heap.size from HBX.out.lt); clear HZ; have HZ := Lib.hid X.out; clear X; have X := Lib.hid (show Rep (fun b => b < w.heap.size) w (cat InstD.c ((acc ++ [x]) ++ [y])) ((cells ++ cs) ++ ci) from by rw [cat_app, cat_one]; exact Rep.app.2 ⟨_, _, rfl, HA.out, HRC.out⟩); clear HA; have HA := Lib.hid X.out; clear X; clear HO; have HO := Lib.hid hown5; clear hown5 hg5 hat5 hgb))
              | fail)
            exact ⟨⟨j + 1, _, true, Avxy, kvxy, _, _, by omega, rfl, rfl, by go_num, by have h0 := HQ.out; simp; omega, by omega, by have h0 := HT2.out; simpa [List.append_assoc] using h0, HO.out, HA.out, HBX.out, BW.out⟩, by simp only [intOf]; omega⟩
    · have hjn : j = n := by omega
      subst hjn
      have hd : xs.drop j = [] := List.drop_eq_nil_of_le (by have := HN.out; omega)
      rw [hd] at hT
      have HT := Lib.hid hT; clear hT hd
      cases p with
      | true =>
        have hT2 : acc = R := by have h0 := HT.out; simpa [putA] using h0
        subst hT2
        go_wp2
        go_ret
        exact ⟨_, _, _, rfl, HQ.out, own_repI HO.out (by rw [cat_width InstD.width, HQ.out]) (HA.out.keepM BW.out.size (fun b _ h1 => ⟨trivial, BW.out.block b h1⟩)), BW.out⟩
      | false =>
        have hT2 : acc ++ [x] = R := by have h0 := HT.out; simpa [putA] using h0
        have HT2 := Lib.hid hT2; clear hT2
        go_wp2_with (first
          | ((with_reducible show wpList _ _ _ ({ dst := _, op := Op.load 38 _, type := _, pos := _, after := _, guard := _ } :: _) _ _); refine wpList_load_row _ ⟨w.heap.size, 0, none⟩ rfl cs agg_Inst HL.out (blk_cells HBX.out) ?_)
          | ((with_reducible show wpList _ _ _ ({ dst := _, op := Op.buildSlice _ _ _, type := _, pos := _, after := _, guard := _ } :: _) _ _); go_must (refine wpList_build1 rfl (.tmp 50) rfl cs HL.out rfl ?_))
          | (at_builtin; go_must (refine wpList_app E_Inst _ rfl (.tmp 49) (.tmp 51) rfl (w.heap.size + 1) _ q cells rfl (HO.out.alloc _) _ _ _ _ rfl (Reads.new (e := 38) (by simp [HL.out])) HX1.out (by omega) (by have h1 := HZ.out; simp; omega) ?_; intro vx w5 hown5 hg5 hat5; have hgb := HO.out.lt; obtain ⟨Avx, kvx, rfl, _⟩ := SlR.of_own hown5; have X := Lib.hid (show Blk w5 w.heap.size 38 cs.toArray from (HBX.out.alloc _).keep (hg5.block _ (HBX.out.alloc _).lt (fun e => by have h7 := (hgb _ e.symm).1; omega))); clear HBX; have HBX := Lib.hid X.out; clear X; have X := Lib.hid (show Below w.heap.size w w5 from Below.grown (BW.out.alloc BW.out.size _) hg5 (Nat.le_trans BW.out.size (by simp)) (fun k' hk => by have h7 := (hgb _ hk).1; omega)); clear BW; have BW := Lib.hid X.out; clear X; have X := Lib.hid (show w.heap.size + 1 ≤ w5.heap.size from HBX.out.lt); clear HZ; have HZ := Lib.hid X.out; clear X; have X := Lib.hid (show Rep (fun b => b < w.heap.size) w (cat InstD.c (acc ++ [x])) (cells ++ cs) from by rw [cat_app, cat_one]; exact Rep.app.2 ⟨_, _, rfl, HA.out, HXR.out⟩); clear HA; have HA := Lib.hid X.out; clear X; clear HO; have HO := Lib.hid hown5; clear hown5 hg5 hat5 hgb))
          | fail)
        go_ret
        exact ⟨_, _, _, rfl, by rw [← HT2.out, HQ.out]; simp, by rw [← HT2.out]; exact own_repI HO.out (by rw [cat_width InstD.width, List.length_append, HQ.out]; rfl) (HA.out.keepM BW.out.size (fun b _ h1 => ⟨trivial, BW.out.block b h1⟩)), BW.out⟩






































































end Go.Proofs.YtonaacdefidomaaGreat
namespace Go.Proofs.YtonaacdefidomaaGreat
open Go.RowKit
theorem own_swap {w : World} {base e sz n c g : Nat} {α : Type} {f : α → Cs} {a b : List α} {x : α} {F : List Nat} (hf : ∀ x, (f x).width = sz)
    (h : Own w base (.sl e sz n (cat f (a ++ x :: b)) .nil) [.slice (some ⟨g, 0, none⟩) n c] F) (hnd : F.Nodup) :
    ∃ c1 c2 c3 spare, c1.length = a.length * sz ∧ c2.length = sz ∧ base ≤ g ∧ Blk w g e (c1 ++ (c2 ++ (c3 ++ spare))).toArray ∧
      ∀ w' x' c2' G', Own w' base (f x') c2' G' → G'.Nodup → (∀ b ∈ G', b ∉ F) → w.grownBy w' (some g) → Blk w' g e (c1 ++ (c2' ++ (c3 ++ spare))).toArray → Mine w' base (.sl e sz n (cat f (a ++ x' :: b)) .nil) [.slice (some ⟨g, 0, none⟩) n c] := by
  obtain ⟨cells, F1, rfl, hw, hr, hi⟩ := Own.sl1.1 h
  rw [cat_app, cat_cons] at hi
  obtain ⟨c1, _, G1, _, rfl, rfl, h1, hi⟩ := Own.app.1 hi
  obtain ⟨c2, c3, G2, G3, rfl, rfl, h2, h3⟩ := Own.app.1 hi
  have hr2 := hr.2
  rcases hr2 with ⟨h0, _⟩ | ⟨g', cap, cur, hv, hb, hh, hnc, hcm, hs, ht⟩
  · cases h0
  injection hv with e1 _ e3
  injection e1 with e1
  injection e1 with e1
  subst e1 e3
  have hcur : cur.toList = c1 ++ (c2 ++ (c3 ++ cur.toList.drop (n * sz))) := by
    conv => lhs; rw [← List.take_append_drop (n * sz) cur.toList, ht]
    simp only [List.append_assoc]
  have hl1 : c1.length = a.length * sz := by rw [h1.length, cat_width hf]
  have hl2 : c2.length = sz := by rw [h2.length, hf]
  have hcs : cur = (c1 ++ (c2 ++ (c3 ++ cur.toList.drop (n * sz)))).toArray := by rw [← hcur, Array.toArray_toList]
  have hnd0 : (g :: (G1 ++ (G2 ++ G3))).Nodup := hnd
  obtain ⟨hng, hnd1⟩ := List.nodup_cons.1 hnd0
  obtain ⟨n1, n23, d123⟩ := List.nodup_append.1 hnd1
  obtain ⟨n2, n3, d23⟩ := List.nodup_append.1 n23
  refine ⟨c1, c2, c3, cur.toList.drop (n * sz), hl1, hl2, hb, by rw [← hcs]; exact hh, fun w' x' c2' G' o2 nG hdis hgr hb' => ?_⟩
  have hl2' : c2'.length = sz := by rw [o2.length, hf]
  have hdis' : ∀ b ∈ G', ¬ (b = g ∨ b ∈ G1 ∨ b ∈ G2 ∨ b ∈ G3) := fun b hb h => hdis b hb (by
    show b ∈ g :: (G1 ++ (G2 ++ G3))
    simp only [List.mem_cons, List.mem_append]
    exact h)
  have o1 : Own w' base (cat f a) c1 G1 := h1.keep (fun b hb => hgr.block b (h1.in b hb).2 (fun e => hng (by injection e with e; rw [← e]; exact List.mem_append_left _ hb)))
  have o3 : Own w' base (cat f b) c3 G3 := h3.keep (fun b hb => hgr.block b (h3.in b hb).2 (fun e => hng (by injection e with e; rw [← e]; exact List.mem_append_right _ (List.mem_append_right _ hb))))
  refine ⟨g :: (G1 ++ (G' ++ G3)), List.nodup_cons.2 ⟨fun hm => ?_, List.nodup_append.2 ⟨n1, List.nodup_append.2 ⟨nG, n3, fun x hx y hy e => hdis' x hx (by rw [e]; exact .inr (.inr (.inr hy)))⟩, fun x hx y hy e => ?_⟩⟩, Own.sl1.2 ⟨c1 ++ (c2' ++ c3), G1 ++ (G' ++ G3), rfl, ?_, ⟨?_, .inr ⟨g, c, _, rfl, hb, hb', hnc, hcm, ?_, ?_⟩⟩, ?_⟩⟩
  · rcases List.mem_append.1 hm with h | h
    · exact hng (List.mem_append_left _ h)
    · rcases List.mem_append.1 h with h | h
      · exact hdis' g h (.inl rfl)
      · exact hng (List.mem_append_right _ (List.mem_append_right _ h))
  · rcases List.mem_append.1 hy with h | h
    · exact hdis' y h (by rw [← e]; exact .inr (.inl hx))
    · exact d123 x hx y (List.mem_append_right _ h) e
  · rw [cat_app, cat_cons, Cs.width_app, Cs.width_app, hf] at hw ⊢
    exact hw
  · have := hr.1
    simp only [List.length_append] at this ⊢
    omega
  · rw [← hs]
    conv => rhs; rw [hcs]
    simp only [List.size_toArray, List.length_append]
    omega
  · have hlen : (c1 ++ (c2' ++ c3)).length = n * sz := by
      have := hr.1
      simp only [List.length_append] at this ⊢
      omega
    simp only []
    rw [show c1 ++ (c2' ++ (c3 ++ cur.toList.drop (n * sz))) = (c1 ++ (c2' ++ c3)) ++ cur.toList.drop (n * sz) by simp only [List.append_assoc], ← hlen, List.take_left']
    rfl
  · rw [cat_app, cat_cons]
    exact Own.app.2 ⟨_, _, _, _, rfl, rfl, o1, Own.app.2 ⟨_, _, _, _, rfl, rfl, o2, o3⟩⟩
theorem set_split {α : Type} (xs : List α) (k : Nat) (hk : k < xs.length) (x : α) : xs = xs.take k ++ xs[k] :: xs.drop (k + 1) ∧ xs.set k x = xs.take k ++ x :: xs.drop (k + 1) := by
  refine ⟨?_, List.set_eq_take_append_cons_drop .. |>.trans (by rw [if_pos hk])⟩
  rw [← List.drop_eq_getElem_cons hk, List.take_append_drop]
end Go.Proofs.YtonaacdefidomaaGreat
