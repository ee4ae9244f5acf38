/-
  A law for regions that draw their order, with operations that touch no memory (addresses of fields) taken first wherever they stand, then a head in one order, then a tail in one order. Conditions: those that the law's Bool checks ask.
  A law for regions that draw their order: operations whose result hangs on no memory are taken first wherever they stand, then a head in one order, then a tail in one order, which may write whatever it will. Conditions: those that the law's Bool checks ask.
  The law of XRegion with forks: where two operations that act are free of order (a variable that is made beside calls in a chain), both ways are walked.
  A law for regions that draw their order: operations whose result hangs on no memory first, then a head with forks (two that act and are free of each other), then a tail in one order, which may write. Conditions: those that the law's Bool checks ask.
  Is an instance ready: spec.Ready and impl.Ready. Conditions: bounds on the sizes.
  Are all Deps of a component in it, or told: spec.l12May. Conditions: bounds on the sizes.
-/
import Derived.Test.YtoffelfcmfpooaaRegion
import Derived.Test.YtoffelfcmfpooaaMxA
set_option linter.unusedVariables false
set_option linter.unusedSimpArgs false
namespace Go.Proofs.Ytoffelfcmfpooaa
open Go.RowKit
section
variable {P : Program} {md : Region.Mode} {ops : Array Oper}

/-! ### the invariant: what is listed is closed under what it waits for; the floats are listed -/
structure FInv (md : Region.Mode) (ops : Array Oper) (fl : List Nat) (listed : Array Bool) : Prop where
  closed : ∀ j oj, ops[j]? = some oj → listed.getD j false = true → ∀ e ∈ oj.after, Region.binds md e = true → listed.getD e.on false = true
  floats : ∀ t ∈ fl, listed.getD t true = true
theorem FInv.set {fl : List Nat} {i : Nat} {listed : Array Bool} (inv : FInv md ops fl listed) (hi : i ∈ Region.ready md ops listed) : FInv md ops fl (listed.setIfInBounds i true) := by
  obtain ⟨_, oi, hoi, hall⟩ := mem_ready.1 hi
  refine ⟨fun j oj hj hl e he hb => ?_, fun t ht => ?_⟩
  · by_cases hij : i = j
    · subst hij
      have : oj = oi := Option.some.inj (hj.symm.trans hoi)
      subst this
      exact getD_set_true (hall e he hb)
    · rw [getD_set_ne false hij] at hl
      exact getD_set_true (inv.closed j oj hj hl e he hb)
  · by_cases hij : i = t
    · subst hij
      rcases Nat.lt_or_ge i listed.size with h | h
      · simp [h]
      · simp [h]
    · rw [getD_set_ne true hij]
      exact inv.floats t ht
def waitsB (md : Region.Mode) (ops : Array Oper) : Nat → Nat → Nat → Bool
  | 0, _, _ => false
  | f + 1, t, i => match ops[t]? with
    | none => false
    | some o => o.after.toList.any fun e => Region.binds md e && (e.on == i || waitsB md ops f e.on i)
theorem waitsB_listed {fl : List Nat} {listed : Array Bool} (inv : FInv md ops fl listed) : ∀ (f t i : Nat), listed.getD t false = true → waitsB md ops f t i = true → listed.getD i false = true
  | 0, _, _, _, h => by simp [waitsB] at h
  | f + 1, t, i, ht, h => by
    simp only [waitsB] at h
    split at h
    · cases h
    · rename_i o ho
      obtain ⟨e, he, hb⟩ := List.any_eq_true.1 h
      simp only [Bool.and_eq_true, Bool.or_eq_true, beq_iff_eq] at hb
      have hl := inv.closed t o ho ht e (by simpa using he) hb.1
      rcases hb.2 with h1 | h1
      · rw [← h1]; exact hl
      · exact waitsB_listed inv f e.on i hl h1
theorem ready_waits {fl : List Nat} {listed : Array Bool} (inv : FInv md ops fl listed) {f t i : Nat} (ht : t ∈ Region.ready md ops listed) (h : waitsB md ops f t i = true) : listed.getD i false = true := by
  obtain ⟨_, o, ho, hall⟩ := mem_ready.1 ht
  cases f with
  | zero => simp [waitsB] at h
  | succ f =>
    simp only [waitsB, ho] at h
    obtain ⟨e, he, hb⟩ := List.any_eq_true.1 h
    simp only [Bool.and_eq_true, Bool.or_eq_true, beq_iff_eq] at hb
    have hl := hall e (by simpa using he) hb.1
    rcases hb.2 with h1 | h1
    · rw [← h1]; exact hl
    · exact waitsB_listed inv f e.on i hl h1
/-- the head is done before anything but a float of the tail comes up -/
def blockB (md : Region.Mode) (ops : Array Oper) (n : Nat) (fl : List Nat) : Bool :=
  (List.range ops.size).all fun t => decide (t < n) || fl.contains t || (List.range n).all fun i => fl.contains i || waitsB md ops ops.size t i
def BlocksF (md : Region.Mode) (ops : Array Oper) (n : Nat) (fl : List Nat) : Prop := ∀ listed, FInv md ops fl listed → ∀ i, i < n → listed.getD i true = false → ∀ t ∈ Region.ready md ops listed, t < n
theorem blocksF_of {n : Nat} {fl : List Nat} (h : blockB md ops n fl = true) : BlocksF md ops n fl := by
  intro listed inv i hin hun t ht
  have hts : t < ops.size := by
    obtain ⟨_, o, ho, _⟩ := mem_ready.1 ht
    exact (Array.getElem?_eq_some_iff.1 ho).1
  have h1 := List.all_eq_true.1 h t (List.mem_range.2 hts)
  simp only [Bool.or_eq_true, decide_eq_true_eq] at h1
  rcases h1 with (h1 | h1) | h1
  · exact h1
  · have h2 := inv.floats t (by simpa using h1)
    have h3 := (mem_ready.1 ht).1
    rw [h2] at h3; cases h3
  · have h2 := List.all_eq_true.1 h1 i (List.mem_range.2 hin)
    simp only [Bool.or_eq_true] at h2
    rcases h2 with h2 | h2
    · have h3 := inv.floats i (by simpa using h2)
      rw [h3] at hun; cases hun
    · have h3 := ready_waits inv ht h2
      rw [getD_both hun] at h3; cases h3

theorem take_firstF {n i : Nat} {fl : List Nat} {oi : Oper} {v : Value} {C : World → Prop} {L : Array Bool → Act → World → Prop} (hi : ops[i]? = some oi) (hsel : ∀ (j : Nat) (o : Oper) cs b, ops[j]? = some o → o.op ≠ .select cs b)
    (hblk : BlocksF md ops n fl) (hin : i < n) (hdone : ∀ listed a w, L listed a w → ∀ j ∈ Region.ready md ops listed, n ≤ j) :
    ∀ (f : Nat) (listed : Array Bool) (a : Act) (w : World), FInv md ops fl listed →
      (∀ j oj, ops[j]? = some oj → j ≠ i → listed.getD j true = false → (∀ e ∈ oj.after, Region.binds md e = true → e.on ≠ i) → oi.apart ops oj = true) →
      i ∈ Region.ready md ops listed → YieldsE P ops C oi v a → C w →
      wpAnyC P md ops n C L f (listed.setIfInBounds i true) (a.put oi.dst v) w → wpAnyC P md ops n C L (f + 1) listed a w := by
  intro f
  induction f with
  | zero =>
    intro listed a w inv _ hr hy hw H
    have hun := (mem_ready.1 hr).1
    refine ⟨hw, fun h => (by rw [h] at hr; cases hr), fun j hj => ?_⟩
    have hjn := hblk listed inv i hin hun j hj
    refine ⟨hjn, ?_⟩
    by_cases hji : j = i
    · subst hji
      exact hy.go hi hw H
    · have := hdone _ _ _ H.2 j (ready_mono hj hji)
      omega
  | succ f ih =>
    intro listed a w inv hfree hr hy hw H
    have hun := (mem_ready.1 hr).1
    refine ⟨hw, fun h => (by rw [h] at hr; cases hr), fun j hj => ?_⟩
    have hjn := hblk listed inv i hin hun j hj
    refine ⟨hjn, ?_⟩
    by_cases hji : j = i
    · subst hji
      exact hy.go hi hw H
    · have h1 := (H.2.2 j (ready_mono hj hji)).2
      obtain ⟨hjun, oj, hoj, hall⟩ := mem_ready.1 hj
      have hnot : ∀ e ∈ oj.after, Region.binds md e = true → e.on ≠ i := fun e he hb heq => by
        have h1 := hall e he hb
        rw [heq, getD_both hun] at h1
        cases h1
      have h2 := move_past hoj (hfree j oj hoj hji hjun hnot) (fun cs b => hsel i oi cs b hi) (fun cs b => hsel j oj cs b hoj) hy h1
      have hfree' : ∀ k ok, ops[k]? = some ok → k ≠ i → (listed.setIfInBounds j true).getD k true = false →
          (∀ e ∈ ok.after, Region.binds md e = true → e.on ≠ i) → oi.apart ops ok = true := fun k ok hk hki hun2 hno => by
        refine hfree k ok hk hki ?_ hno
        by_cases hjk : j = k
        · subst hjk; exact hjun
        · rw [getD_set_ne true hjk] at hun2; exact hun2
      refine wpOp_mono (fun a' w' h3 => ?_) h2
      have hcw : C w' := by
        cases f with
        | zero => exact h3.2.1
        | succ f => exact h3.2.1
      refine ih (listed.setIfInBounds j true) a' w' (inv.set hj) hfree' (ready_mono hr (Ne.symm hji)) h3.1 hcw ?_
      rw [Array.setIfInBounds_comm _ _ hji]
      exact h3.2

/-! ### a head in one order: reads, structs built, actors -/
def buildOf : Op → Option (TypeId × Array (Nat × Operand))
  | .build t parts => some (t, parts)
  | _ => none
theorem buildOf_spec {op : Op} {t : TypeId} {parts : Array (Nat × Operand)} (h : buildOf op = some (t, parts)) : op = .build t parts := by
  cases op <;> simp [buildOf] at h
  obtain ⟨rfl, rfl⟩ := h
  rfl
def wpH (P : Program) (ops : Array Oper) (Q : Exit → Act → World → Prop) (tail : List Oper) : List Nat → Act → World → Prop
  | [], a, w => wpList P ops Q tail a w
  | i :: r, a, w => match ops[i]? with
    | none => False
    | some o => match buildOf o.op with
      | some (t, parts) => o.guard = none ∧ ∃ cells, P.built t (parts.map fun (i, x) => (i, a.eval x)).toList = some cells ∧ wpH P ops Q tail r (a.put o.dst (.agg cells)) w
      | none =>
        if quietKind P o.op = true then (Region.wanted o (yielded ops a.tmps) = true → plainB o a = true) ∧ wpList P ops (stopQ w (wpH P ops Q tail r)) [o] a w
        else wpList P ops (stopA w (wpH P ops Q tail r)) [o] a w
section
variable {Q : Exit → Act → World → Prop} {tail : List Oper} {i : Nat} {r : List Nat} {a : Act} {w : World} {o : Oper}
theorem wpH_build (hi : ops[i]? = some o) {t : TypeId} {parts : Array (Nat × Operand)} (hb : buildOf o.op = some (t, parts)) (hg : o.guard = none) (cells : Array Value) (hc : P.built t (parts.map fun (i, x) => (i, a.eval x)).toList = some cells)
    (h : wpH P ops Q tail r (a.put o.dst (.agg cells)) w) : wpH P ops Q tail (i :: r) a w := by
  simp only [wpH, hi, hb]; exact ⟨hg, cells, hc, h⟩
theorem wpH_quiet (hi : ops[i]? = some o) (hb : buildOf o.op = none) (hk : quietKind P o.op = true) (hp : plainB o a = true)
    (h : wpList P ops (stopQ w (wpH P ops Q tail r)) [o] a w) : wpH P ops Q tail (i :: r) a w := by
  simp only [wpH, hi, hb, hk, if_true]
  exact ⟨fun _ => hp, h⟩
theorem wpH_actor (hi : ops[i]? = some o) (hb : buildOf o.op = none) (hk : quietKind P o.op = false)
    (h : wpList P ops (stopA w (wpH P ops Q tail r)) [o] a w) : wpH P ops Q tail (i :: r) a w := by
  simp only [wpH, hi, hb, hk, Bool.false_eq_true, if_false]
  exact h
theorem wpH_nil (h : wpList P ops Q tail a w) : wpH P ops Q tail [] a w := h
end
theorem execOp_build {a : Act} {o : Oper} {t : TypeId} {parts : Array (Nat × Operand)} (hb : buildOf o.op = some (t, parts)) {cells : Array Value} (hc : P.built t (parts.map fun (i, x) => (i, a.eval x)).toList = some cells) (w : World) :
    (execOp a.eval o).run P w = .ok (.value (.agg cells)) w := by
  obtain ⟨dst, op, type, pos, after, guard⟩ := o
  have := buildOf_spec hb
  simp only at this
  subst this
  show (do Pure.pure (Next.value (← Instr.build t (parts.map fun (i, x) => (i, a.eval x)))) : Sem Next).run P w = _
  rw [Sem.run_bind, run_build w t _ cells hc]
  simp only [Result.andThen, Sem.run_pure]

def headSimF (P : Program) (md : Region.Mode) (ops : Array Oper) (n : Nat) (seq : Array Bool → Bool) : List Nat → Array Bool → Bool
  | [], listed => seq listed
  | i :: r, listed => decide (i < n) && (match ops[i]? with
      | none => false
      | some o => if (buildOf o.op).isSome || quietKind P o.op then (Region.ready md ops listed).contains i && Region.free md ops listed i else decide (Region.ready md ops listed = [i])) &&
    headSimF P md ops n seq r (listed.setIfInBounds i true)

theorem wpAnyC_of_XF {n : Nat} {fl : List Nat} {Q : Exit → Act → World → Prop} {tail : List Oper} {seq : Array Bool → Bool} (hsel : ∀ (j : Nat) (o : Oper) cs b, ops[j]? = some o → o.op ≠ .select cs b) (hblk : BlocksF md ops n fl) (hseq : ∀ listed, seq listed = true → ∀ j ∈ Region.ready md ops listed, n ≤ j) :
    ∀ (r : List Nat) (listed : Array Bool) (a : Act) (w : World), FInv md ops fl listed → headSimF P md ops n seq r listed = true → wpH P ops Q tail r a w →
      wpAnyC P md ops n (Ext w) (fun listed' a' w' => seq listed' = true ∧ wpList P ops Q tail a' w') r.length listed a w
  | [], _, _, w, _, hB, h => ⟨Ext.refl w, hB, h⟩
  | i :: r, listed, a, w, inv, hB, h => by
    simp only [headSimF, Bool.and_eq_true, decide_eq_true_eq] at hB
    obtain ⟨⟨hin, hB1⟩, hB2⟩ := hB
    cases ho : ops[i]? with
    | none => rw [ho] at hB1; cases hB1
    | some o =>
      rw [ho] at hB1
      simp only [wpH, ho] at h
      simp only at hB1
      have hdone : ∀ (listed : Array Bool) (a : Act) (w : World), (seq listed = true ∧ wpList P ops Q tail a w) → ∀ j ∈ Region.ready md ops listed, n ≤ j := fun _ _ _ hx => hseq _ hx.1
      cases hbo : buildOf o.op with
      | some tp =>
        obtain ⟨t, parts⟩ := tp
        rw [hbo] at hB1 h
        simp only [Option.isSome_some, Bool.true_or, if_true, Bool.and_eq_true] at hB1
        have hr : i ∈ Region.ready md ops listed := by simpa using hB1.1
        obtain ⟨hg, cells, hc, hX⟩ := h
        have hw : Region.wanted o (yielded ops a.tmps) = true := by simp [Region.wanted, hg]
        exact take_firstF ho hsel hblk hin hdone r.length listed a w inv (fun j oj hj hne hun hno => Region.free_spec ho hB1.2 j oj hj hne hun hno) hr (.inl ⟨hw, fun w2 _ => execOp_build hbo hc w2⟩) (Ext.refl w)
          (wpAnyC_of_XF hsel hblk hseq r _ _ w (inv.set hr) hB2 hX)
      | none =>
      rw [hbo] at hB1 h
      simp only [Option.isSome_none, Bool.false_or] at hB1 h
      by_cases hk : quietKind P o.op = true
      · rw [if_pos hk] at hB1 h
        simp only [Bool.and_eq_true] at hB1
        have hr : i ∈ Region.ready md ops listed := by simpa using hB1.1
        obtain ⟨hp, h⟩ := h
        simp only [wpList] at h
        have key : ∃ v, YieldsE P ops (Ext w) o v a ∧ wpH P ops Q tail r (a.put o.dst v) w := by
          by_cases hw : Region.wanted o (yielded ops a.tmps) = true
          · rw [if_pos hw] at h
            rcases h with h | ⟨_, _, _, hx⟩
            · have hst := Stable.op (P := P) (o := o) (a := a) hk (hp hw)
              unfold Oper.wp at h
              cases hrun : (execOp a.eval o).run P w with
              | halt x w' =>
                rw [hrun] at h
                cases x <;> simp only [Oper.upon] at h
                exact h.elim
              | ok nx w' =>
                obtain ⟨rfl, hall⟩ := hst w nx w' hrun
                rw [hrun] at h
                have hval : ∃ v, nx = .value v := by
                  obtain ⟨dst, op, type, pos, after, guard⟩ := o
                  have fromVal : ∀ {s : Sem Value}, (do Pure.pure (Next.value (← s)) : Sem Next).run P w' = .ok nx w' → ∃ v, nx = .value v := fun {s} hs => by
                    rw [Sem.run_bind] at hs
                    cases hs2 : s.run P w' with
                    | halt _ _ => rw [hs2] at hs; cases hs
                    | ok v w2 =>
                      rw [hs2] at hs
                      simp only [Result.andThen, Sem.run_pure, Result.ok.injEq] at hs
                      exact ⟨v, hs.1.symm⟩
                  cases op <;> first | exact absurd hk Bool.false_ne_true | exact fromVal hrun | skip
                  case move x => simp only [execOp, Sem.run_pure, Result.ok.injEq] at hrun; exact ⟨_, hrun.1.symm⟩
                  case assign x => simp only [execOp, Sem.run_pure, Result.ok.injEq] at hrun; exact ⟨_, hrun.1.symm⟩
                  case pick c x y =>
                    simp only [execOp, Sem.run_bind] at hrun
                    cases hs2 : (asBool (a.eval c)).run P w' with
                    | halt _ _ => rw [hs2] at hrun; cases hrun
                    | ok v w2 =>
                      rw [hs2] at hrun
                      simp only [Result.andThen, Sem.run_pure, Result.ok.injEq] at hrun
                      exact ⟨_, hrun.1.symm⟩
                  case nilCheck x =>
                    have hp' := hp hw
                    simp only [plainB] at hp'
                    simp only [execOp] at hrun
                    split at hp'
                    · rename_i ad he
                      rw [he] at hrun
                      simp only [Sem.run_pure, Result.ok.injEq] at hrun
                      exact ⟨_, hrun.1.symm⟩
                    · cases hp'
                  case call c =>
                    obtain ⟨⟨x, t⟩, hc⟩ := Option.isSome_iff_exists.1 (show (lenCall c).isSome = true from hk)
                    have hc' := lenCall_spec hc
                    subst hc'
                    refine fromVal (s := Builtin.len_ #[t] type #[a.eval x]) ?_
                    rw [← hrun]
                    simp only [execOp, resolve, invoke, builtin, Sem.run_bind, Sem.run_pure, Result.andThen_ok, List.map_toArray, List.map_cons, List.map_nil]
                obtain ⟨v, rfl⟩ := hval
                simp only [Oper.upon] at h
                exact ⟨v, .inl ⟨hw, fun w2 hw2 => hall w2 hw2⟩, h.2⟩
            · exact hx.elim
          · rw [if_neg hw] at h
            exact ⟨undef, .inr ⟨by simpa using hw, rfl⟩, h.2⟩
        obtain ⟨v, hy, hX⟩ := key
        exact take_firstF ho hsel hblk hin hdone r.length listed a w inv (fun j oj hj hne hun hno => Region.free_spec ho hB1.2 j oj hj hne hun hno) hr hy (Ext.refl w)
          (wpAnyC_of_XF hsel hblk hseq r _ _ w (inv.set hr) hB2 hX)
      · rw [if_neg hk] at hB1 h
        have hready : Region.ready md ops listed = [i] := by simpa using hB1
        have hr : i ∈ Region.ready md ops listed := by rw [hready]; simp
        refine ⟨Ext.refl w, by rw [hready]; simp, fun j hj => ?_⟩
        rw [hready] at hj
        have hji : j = i := by simpa using hj
        subst hji
        refine ⟨hin, ?_⟩
        have step : ∀ a' w', stopA w (wpH P ops Q tail r) .normal a' w' → wpAnyC P md ops n (Ext w) (fun listed' a' w' => seq listed' = true ∧ wpList P ops Q tail a' w') r.length (listed.setIfInBounds j true) a' w' :=
          fun a' w' hs => wpAnyC_mono (fun w2 h2 => hs.1.trans h2) _ _ _ _ (wpAnyC_of_XF hsel hblk hseq r _ a' w' (inv.set hr) hB2 hs.2)
        unfold wpOp
        simp only [ho]
        simp only [wpList] at h
        by_cases hw : Region.wanted o (yielded ops a.tmps) = true
        · rw [if_pos hw] at h ⊢
          rcases h with h | ⟨_, _, _, hx⟩
          · exact .inl (wp_off stopA_off step h)
          · exact hx.elim
        · rw [if_neg hw] at h ⊢
          exact step _ _ h

/-! ### the tail: one operation after the other, none of which leaves the region -/
def stopN (Q : Exit → Act → World → Prop) : Exit → Act → World → Prop
  | .normal, a, w => True ∧ Q .normal a w
  | _, _, _ => False
def seqZ (md : Region.Mode) (ops : Array Oper) : List Nat → Array Bool → Bool
  | [], listed => decide (Region.ready md ops listed = [])
  | i :: z, listed => decide (Region.ready md ops listed = [i]) && seqZ md ops z (listed.setIfInBounds i true)
theorem seqZ_ge {n : Nat} : ∀ {z : List Nat} {listed : Array Bool}, (∀ t ∈ z, n ≤ t) → seqZ md ops z listed = true → ∀ j ∈ Region.ready md ops listed, n ≤ j
  | [], listed, _, h, j, hj => by simp only [seqZ, decide_eq_true_eq] at h; rw [h] at hj; cases hj
  | i :: z, listed, hz, h, j, hj => by
    simp only [seqZ, Bool.and_eq_true, decide_eq_true_eq] at h
    rw [h.1] at hj
    have : j = i := by simpa using hj
    subst this
    exact hz j (by simp)
def LQ (md : Region.Mode) (ops : Array Oper) (Q : Exit → Act → World → Prop) (listed : Array Bool) (a : Act) (w : World) : Prop := Region.ready md ops listed = [] ∧ Q .normal a w
def pickOps (ops : Array Oper) : List Nat → List Oper
  | [] => []
  | i :: z => match ops[i]? with | none => [] | some o => o :: pickOps ops z
theorem wpAnyC_of_Z {Q : Exit → Act → World → Prop} : ∀ (z : List Nat) (listed : Array Bool) (a : Act) (w : World), seqZ md ops z listed = true → wpList P ops (stopN Q) (pickOps ops z) a w →
    wpAnyC P md ops ops.size (fun _ => True) (LQ md ops Q) z.length listed a w
  | [], listed, a, w, hB, h => ⟨trivial, by simpa [seqZ] using hB, h.2⟩
  | i :: z, listed, a, w, hB, h => by
    simp only [seqZ, Bool.and_eq_true, decide_eq_true_eq] at hB
    have hr : i ∈ Region.ready md ops listed := by rw [hB.1]; simp
    obtain ⟨_, o, ho, _⟩ := mem_ready.1 hr
    refine ⟨trivial, by rw [hB.1]; simp, fun j hj => ?_⟩
    rw [hB.1] at hj
    have hji : j = i := by simpa using hj
    subst hji
    refine ⟨(Array.getElem?_eq_some_iff.1 ho).1, ?_⟩
    simp only [pickOps, ho] at h
    unfold wpOp
    simp only [ho]
    simp only [wpList] at h
    have step : ∀ a' w', wpList P ops (stopN Q) (pickOps ops z) a' w' → wpAnyC P md ops ops.size (fun _ => True) (LQ md ops Q) z.length (listed.setIfInBounds j true) a' w' := fun a' w' h' => wpAnyC_of_Z z _ a' w' hB.2 h'
    by_cases hw : Region.wanted o (yielded ops a.tmps) = true
    · rw [if_pos hw] at h ⊢
      rcases h with h | ⟨_, _, _, hx⟩
      · refine .inl (wp_off (fun e a w hs => ?_) step h)
        cases e <;> first | rfl | exact hs.elim
      · exact hx.elim
    · rw [if_neg hw] at h ⊢
      exact step _ _ h
theorem wpAnyC_glue {n g : Nat} {C : World → Prop} {L L' : Array Bool → Act → World → Prop} (hn : n ≤ ops.size) (hL : ∀ listed a w, L listed a w → wpAnyC P md ops ops.size (fun _ => True) L' g listed a w) :
    ∀ (f : Nat) (listed : Array Bool) (a : Act) (w : World), wpAnyC P md ops n C L f listed a w → wpAnyC P md ops ops.size (fun _ => True) L' (f + g) listed a w
  | 0, listed, a, w, h => by rw [Nat.zero_add]; exact hL _ _ _ h.2
  | f + 1, listed, a, w, h => by
    rw [show f + 1 + g = (f + g) + 1 by omega]
    exact ⟨trivial, h.2.1, fun i hi => ⟨Nat.lt_of_lt_of_le (h.2.2 i hi).1 hn, wpOp_mono (fun a' w' h' => wpAnyC_glue hn hL f _ a' w' h') (h.2.2 i hi).2⟩⟩

/-! ### the floats: addresses of fields -/
def floatKind (P : Program) : Op → Bool
  | .fieldAddr t _ f => fieldPlain P t f
  | .move _ => true
  | .assign _ => true
  | _ => false
theorem float_run {o : Oper} {a : Act} {w w1 : World} {nx : Next} (hk : floatKind P o.op = true) (hrun : (execOp a.eval o).run P w = .ok nx w1) : w1 = w ∧ ∃ v, nx = .value v ∧ ∀ w', (execOp a.eval o).run P w' = .ok nx w' := by
  obtain ⟨dst, op, type, pos, after, guard⟩ := o
  cases op <;> first | exact absurd hk Bool.false_ne_true | skip
  case move x =>
    simp only [execOp, Sem.run_pure, Result.ok.injEq] at hrun
    obtain ⟨rfl, rfl⟩ := hrun
    exact ⟨rfl, _, rfl, fun w' => by simp only [execOp, Sem.run_pure]⟩
  case assign x =>
    simp only [execOp, Sem.run_pure, Result.ok.injEq] at hrun
    obtain ⟨rfl, rfl⟩ := hrun
    exact ⟨rfl, _, rfl, fun w' => by simp only [execOp, Sem.run_pure]⟩
  case fieldAddr t x f =>
    have h : fieldPlain P t f = true := hk
    unfold fieldPlain at h
    split at h
    · rename_i fs hfs
      split at h
      · rename_i fd hfd
        split at h
        · rename_i i hi
          have hsz : i.size ≠ 0 := by simpa using h
          have hr : ∀ w : World, (Instr.fieldAt t (a.eval x) f).run P w = (do
              let a ← Instr.sureAddr (a.eval x)
              Pure.pure (Value.pointer (some (a.add fd.offset))) : Sem Value).run P w := by
            intro w
            unfold Instr.fieldAt
            simp only [Sem.run_bind, run_underlying hfs, Result.andThen, hfd]
            cases hs : (Instr.sureAddr (a.eval x)).run P w with
            | halt _ _ => rfl
            | ok a w1 =>
              simp only [fieldPlace, Sem.run_bind, sizeOf, typeInfo, Go.program, Sem.run]
              simp [Sem.run, Result.andThen, hi, hsz, Sem.run_bind, Go.program]
          have hex : ∀ w : World, (execOp a.eval { dst := dst, op := Op.fieldAddr t x f, type := type, pos := pos, after := after, guard := guard }).run P w = (do Pure.pure (Next.value (← (Instr.fieldAt t (a.eval x) f))) : Sem Next).run P w := fun w => rfl
          rw [hex, Sem.run_bind, hr] at hrun
          cases hx : a.eval x <;> first | (simp [hx, Instr.sureAddr, Sem.run_bind, Sem.run, Result.andThen] at hrun; done) | skip
          rename_i pa
          cases pa with
          | none => simp [hx, Instr.sureAddr, Sem.run_bind, Sem.run, Result.andThen] at hrun
          | some ad =>
            simp only [hx, Instr.sureAddr, Sem.run_bind, Sem.run_pure, Result.andThen, Result.ok.injEq] at hrun
            obtain ⟨rfl, rfl⟩ := hrun
            exact ⟨rfl, _, rfl, fun w' => by rw [hex, Sem.run_bind, hr]; simp only [hx, Instr.sureAddr, Sem.run_bind, Sem.run_pure, Result.andThen]⟩
        · cases h
      · cases h
    · cases h
def wpFl (P : Program) (ops : Array Oper) (K : Act → World → Prop) : List Nat → Act → World → Prop
  | [], a, w => K a w
  | i :: r, a, w => match ops[i]? with
    | none => False
    | some o => wpList P ops (stopQ w (wpFl P ops K r)) [o] a w
theorem wpFl_step {K : Act → World → Prop} {i : Nat} {r : List Nat} {a : Act} {w : World} {o : Oper} (hi : ops[i]? = some o) (h : wpList P ops (stopQ w (wpFl P ops K r)) [o] a w) : wpFl P ops K (i :: r) a w := by
  simp only [wpFl, hi]; exact h
theorem wpFl_nil {K : Act → World → Prop} {a : Act} {w : World} (h : K a w) : wpFl P ops K [] a w := h
def floatSim (P : Program) (md : Region.Mode) (ops : Array Oper) (next : Array Bool → Bool) : List Nat → Array Bool → Bool
  | [], listed => next listed
  | i :: r, listed => (match ops[i]? with
      | none => false
      | some o => floatKind P o.op && (o.guard.isNone && ((Region.ready md ops listed).contains i && Region.free md ops listed i))) && floatSim P md ops next r (listed.setIfInBounds i true)
theorem BlocksF_all : BlocksF md ops ops.size [] := fun listed _ i _ _ t ht => by
  obtain ⟨_, o, ho, _⟩ := mem_ready.1 ht
  exact (Array.getElem?_eq_some_iff.1 ho).1
theorem wpAnyC_of_Fl {Q : Exit → Act → World → Prop} {K : Act → World → Prop} {next : Array Bool → Bool} {g : Nat} (hsel : ∀ (j : Nat) (o : Oper) cs b, ops[j]? = some o → o.op ≠ .select cs b)
    (hK : ∀ listed a w, FInv md ops [] listed → next listed = true → K a w → wpAnyC P md ops ops.size (fun _ => True) (LQ md ops Q) g listed a w) :
    ∀ (r : List Nat) (listed : Array Bool) (a : Act) (w : World), FInv md ops [] listed → floatSim P md ops next r listed = true → wpFl P ops K r a w →
      wpAnyC P md ops ops.size (fun _ => True) (LQ md ops Q) (r.length + g) listed a w
  | [], listed, a, w, inv, hB, h => by rw [List.length_nil, Nat.zero_add]; exact hK _ _ _ inv hB h
  | i :: r, listed, a, w, inv, hB, h => by
    simp only [floatSim, Bool.and_eq_true] at hB
    obtain ⟨hB1, hB2⟩ := hB
    cases ho : ops[i]? with
    | none => rw [ho] at hB1; cases hB1
    | some o =>
      rw [ho] at hB1
      simp only [Bool.and_eq_true] at hB1
      obtain ⟨hk, hgd, hr1, hfr⟩ := hB1
      have hr : i ∈ Region.ready md ops listed := by simpa using hr1
      simp only [wpFl, ho] at h
      have hw : Region.wanted o (yielded ops a.tmps) = true := by
        have : o.guard = none := by simpa using hgd
        simp [Region.wanted, this]
      simp only [wpList, hw, if_true] at h
      rcases h with h | ⟨_, _, _, hx⟩
      · unfold Oper.wp at h
        cases hrun : (execOp a.eval o).run P w with
        | halt x w' =>
          rw [hrun] at h
          cases x <;> simp only [Oper.upon] at h
          exact h.elim
        | ok nx w' =>
          obtain ⟨rfl, v, rfl, hall⟩ := float_run hk hrun
          rw [hrun] at h
          simp only [Oper.upon] at h
          rw [show (i :: r).length + g = (r.length + g) + 1 by simp only [List.length_cons]; omega]
          exact take_firstF (fl := []) ho hsel BlocksF_all (by exact (Array.getElem?_eq_some_iff.1 ho).1) (fun _ _ _ hx j hj => by rw [hx.1] at hj; cases hj) _ listed a w' inv (fun j oj hj hne hun hno => Region.free_spec ho hfr j oj hj hne hun hno) hr (.inl ⟨hw, fun w2 _ => hall w2⟩) trivial
            (wpAnyC_of_Fl hsel hK r _ _ w' (inv.set hr) hB2 h.2)
      · exact hx.elim
theorem FInv.floated {fl : List Nat} {listed : Array Bool} (inv : FInv md ops [] listed) (h : fl.all (fun t => listed.getD t true) = true) : FInv md ops fl listed :=
  ⟨inv.closed, fun t ht => List.all_eq_true.1 h t ht⟩
/-- The law's check: floats fl, the head n in the order r (without floats), the tail in the order z. -/
def regH (P : Program) (md : Region.Mode) (ops : Array Oper) (n : Nat) (fl r z : List Nat) : Bool :=
  Region.noSelect ops && decide (n ≤ ops.size) && decide (fl.length + r.length + z.length = ops.size) && z.all (fun t => decide (n ≤ t)) && blockB md ops n fl &&
    floatSim P md ops (fun listed => fl.all (fun t => listed.getD t true) && headSimF P md ops n (seqZ md ops z) r listed) fl (Array.replicate ops.size false)
theorem wp_region_h {id : Nat} {Q : Exit → Act → World → Prop} {a : Act} {w : World} {l : List Oper} (n : Nat) (fl r z : List Nat) (hm : P.follows .mixedOrders = true) (hB : regH P .any l.toArray n fl r z = true)
    (h : wpFl P l.toArray (wpH P l.toArray (stopN Q) (pickOps l.toArray z) r) fl a w.drew) : (Code.region id l.toArray true).wp P Q a w := by
  simp only [regH, Bool.and_eq_true, decide_eq_true_eq] at hB
  obtain ⟨⟨⟨⟨⟨hsel, hn⟩, hlen⟩, hz⟩, hblk⟩, hsim⟩ := hB
  have hz' : ∀ t ∈ z, n ≤ t := fun t ht => by simpa using List.all_eq_true.1 hz t ht
  have inv0 : FInv .any l.toArray [] (Array.replicate l.toArray.size false) := ⟨fun j oj _ hl => (by rw [getD_replicate_false] at hl; cases hl), fun t ht => absurd ht (by simp)⟩
  have h1 := wpAnyC_of_Fl (P := P) (md := .any) (ops := l.toArray) (Q := Q) (g := r.length + z.length) (K := wpH P l.toArray (stopN Q) (pickOps l.toArray z) r) (Region.noSelect_spec hsel) (fun listed a w inv hnx hK => by
    simp only [Bool.and_eq_true] at hnx
    have h2 := wpAnyC_of_XF (P := P) (Region.noSelect_spec hsel) (blocksF_of hblk) (fun listed hs => seqZ_ge hz' hs) r listed a w (inv.floated hnx.1) hnx.2 hK
    exact wpAnyC_glue hn (fun listed a w hL => wpAnyC_of_Z z listed a w hL.1 hL.2) r.length listed a w h2) fl _ a w.drew inv0 hsim h
  have h3 := wpAny_of_C (P := P) (md := .any) (Q := Q) (g := 0) (n := l.toArray.size) (C := fun _ => True) (L := LQ .any l.toArray Q) (fun listed a w hL => hL) _ _ a w.drew h1
  refine wp_region_any hm ?_
  rw [show l.toArray.size = fl.length + (r.length + z.length) + 0 by omega]
  rw [show fl.length + (r.length + z.length) + 0 = l.toArray.size by omega]
  rw [show fl.length + (r.length + z.length) + 0 = l.toArray.size by omega] at h3
  exact h3
end
end Go.Proofs.Ytoffelfcmfpooaa
namespace Go.Proofs.Ytoffelfcmfpooaa
open Go.RowKit
section
variable {P : Program} {md : Region.Mode} {ops : Array Oper}
theorem quiet_value {o : Oper} {a : Act} {w' : World} {nx : Next} (hk : quietKind P o.op = true) (hp : plainB o a = true) (hrun : (execOp a.eval o).run P w' = .ok nx w') : ∃ v, nx = .value v := by
  obtain ⟨dst, op, type, pos, after, guard⟩ := o
  have fromVal : ∀ {s : Sem Value}, (do Pure.pure (Next.value (← s)) : Sem Next).run P w' = .ok nx w' → ∃ v, nx = .value v := fun {s} hs => by
    rw [Sem.run_bind] at hs
    cases hs2 : s.run P w' with
    | halt _ _ => rw [hs2] at hs; cases hs
    | ok v w2 =>
      rw [hs2] at hs
      simp only [Result.andThen, Sem.run_pure, Result.ok.injEq] at hs
      exact ⟨v, hs.1.symm⟩
  cases op <;> first | exact absurd hk Bool.false_ne_true | exact fromVal hrun | skip
  case move x => simp only [execOp, Sem.run_pure, Result.ok.injEq] at hrun; exact ⟨_, hrun.1.symm⟩
  case assign x => simp only [execOp, Sem.run_pure, Result.ok.injEq] at hrun; exact ⟨_, hrun.1.symm⟩
  case pick c x y =>
    simp only [execOp, Sem.run_bind] at hrun
    cases hs2 : (asBool (a.eval c)).run P w' with
    | halt _ _ => rw [hs2] at hrun; cases hrun
    | ok v w2 =>
      rw [hs2] at hrun
      simp only [Result.andThen, Sem.run_pure, Result.ok.injEq] at hrun
      exact ⟨_, hrun.1.symm⟩
  case nilCheck x =>
    have hp' := hp
    simp only [plainB] at hp'
    simp only [execOp] at hrun
    split at hp'
    · rename_i ad he
      rw [he] at hrun
      simp only [Sem.run_pure, Result.ok.injEq] at hrun
      exact ⟨_, hrun.1.symm⟩
    · cases hp'
  case call c =>
    obtain ⟨⟨x, t⟩, hc⟩ := Option.isSome_iff_exists.1 (show (lenCall c).isSome = true from hk)
    have hc' := lenCall_spec hc
    subst hc'
    refine fromVal (s := Builtin.len_ #[t] type #[a.eval x]) ?_
    rw [← hrun]
    simp only [execOp, resolve, invoke, builtin, Sem.run_bind, Sem.run_pure, Result.andThen_ok, List.map_toArray, List.map_cons, List.map_nil]
/-- a world without memory -/
def bare (w : World) : World := { w with heap := #[] }
theorem bare_ext (w w' : World) : Ext (bare w) w' := fun b hb => absurd hb (by simp [bare])
theorem bare_run {o : Oper} {a : Act} {w w1 : World} {nx : Next} (hk : quietKind P o.op = true) (hp : plainB o a = true) (hrun : (execOp a.eval o).run P (bare w) = .ok nx w1) : w1 = bare w ∧ ∃ v, nx = .value v ∧ ∀ w', (execOp a.eval o).run P w' = .ok nx w' := by
  obtain ⟨rfl, hall⟩ := Stable.op (P := P) (o := o) (a := a) hk hp _ _ _ hrun
  obtain ⟨v, rfl⟩ := quiet_value hk hp hrun
  exact ⟨rfl, v, rfl, fun w' => hall w' (bare_ext w w')⟩
def wpB (P : Program) (ops : Array Oper) (K : Act → World → Prop) : List Nat → Act → World → Prop
  | [], a, w => K a w
  | i :: r, a, w => match ops[i]? with
    | none => False
    | some o => plainB o a = true ∧ wpList P ops (stopQ (bare w) (fun a' _ => wpB P ops K r a' w)) [o] a (bare w)
theorem wpB_step {K : Act → World → Prop} {i : Nat} {r : List Nat} {a : Act} {w : World} {o : Oper} (hi : ops[i]? = some o) (hp : plainB o a = true) (h : wpList P ops (stopQ (bare w) (fun a' _ => wpB P ops K r a' w)) [o] a (bare w)) : wpB P ops K (i :: r) a w := by
  simp only [wpB, hi]; exact ⟨hp, h⟩
theorem wpB_nil {K : Act → World → Prop} {a : Act} {w : World} (h : K a w) : wpB P ops K [] a w := h
def bareSim (P : Program) (md : Region.Mode) (ops : Array Oper) (next : Array Bool → Bool) : List Nat → Array Bool → Bool
  | [], listed => next listed
  | i :: r, listed => (match ops[i]? with
      | none => false
      | some o => quietKind P o.op && (o.guard.isNone && ((Region.ready md ops listed).contains i && Region.free md ops listed i))) && bareSim P md ops next r (listed.setIfInBounds i true)
theorem wpAnyC_of_B {Q : Exit → Act → World → Prop} {K : Act → World → Prop} {next : Array Bool → Bool} {g : Nat} (hsel : ∀ (j : Nat) (o : Oper) cs b, ops[j]? = some o → o.op ≠ .select cs b)
    (hK : ∀ listed a w, FInv md ops [] listed → next listed = true → K a w → wpAnyC P md ops ops.size (fun _ => True) (LQ md ops Q) g listed a w) :
    ∀ (r : List Nat) (listed : Array Bool) (a : Act) (w : World), FInv md ops [] listed → bareSim P md ops next r listed = true → wpB P ops K r a w →
      wpAnyC P md ops ops.size (fun _ => True) (LQ md ops Q) (r.length + g) listed a w
  | [], listed, a, w, inv, hB, h => by rw [List.length_nil, Nat.zero_add]; exact hK _ _ _ inv hB h
  | i :: r, listed, a, w, inv, hB, h => by
    simp only [bareSim, Bool.and_eq_true] at hB
    obtain ⟨hB1, hB2⟩ := hB
    cases ho : ops[i]? with
    | none => rw [ho] at hB1; cases hB1
    | some o =>
      rw [ho] at hB1
      simp only [Bool.and_eq_true] at hB1
      obtain ⟨hk, hgd, hr1, hfr⟩ := hB1
      have hr : i ∈ Region.ready md ops listed := by simpa using hr1
      simp only [wpB, ho] at h
      obtain ⟨hp, h⟩ := h
      have hw : Region.wanted o (yielded ops a.tmps) = true := by
        have : o.guard = none := by simpa using hgd
        simp [Region.wanted, this]
      simp only [wpList, hw, if_true] at h
      rcases h with h | ⟨_, _, _, hx⟩
      · unfold Oper.wp at h
        cases hrun : (execOp a.eval o).run P (bare w) with
        | halt x w' =>
          rw [hrun] at h
          cases x <;> simp only [Oper.upon] at h
          exact h.elim
        | ok nx w' =>
          obtain ⟨rfl, v, rfl, hall⟩ := bare_run hk hp hrun
          rw [hrun] at h
          simp only [Oper.upon] at h
          rw [show (i :: r).length + g = (r.length + g) + 1 by simp only [List.length_cons]; omega]
          exact take_firstF (fl := []) ho hsel BlocksF_all (by exact (Array.getElem?_eq_some_iff.1 ho).1) (fun _ _ _ hx j hj => by rw [hx.1] at hj; cases hj) _ listed a w inv (fun j oj hj hne hun hno => Region.free_spec ho hfr j oj hj hne hun hno) hr (.inl ⟨hw, fun w2 _ => hall w2⟩) trivial
            (wpAnyC_of_B hsel hK r _ _ w (inv.set hr) hB2 h.2)
      · exact hx.elim
/-- The law's check: fl first (they hang on no memory), then z in its order. -/
def regI (P : Program) (md : Region.Mode) (ops : Array Oper) (fl z : List Nat) : Bool :=
  Region.noSelect ops && decide (fl.length + z.length = ops.size) && bareSim P md ops (seqZ md ops z) fl (Array.replicate ops.size false)
theorem wp_region_i {id : Nat} {Q : Exit → Act → World → Prop} {a : Act} {w : World} {l : List Oper} (fl z : List Nat) (hm : P.follows .mixedOrders = true) (hB : regI P .any l.toArray fl z = true)
    (h : wpB P l.toArray (fun a w => wpList P l.toArray (stopN Q) (pickOps l.toArray z) a w) fl a w.drew) : (Code.region id l.toArray true).wp P Q a w := by
  simp only [regI, Bool.and_eq_true, decide_eq_true_eq] at hB
  obtain ⟨⟨hsel, hlen⟩, hsim⟩ := hB
  have inv0 : FInv .any l.toArray [] (Array.replicate l.toArray.size false) := ⟨fun j oj _ hl => (by rw [getD_replicate_false] at hl; cases hl), fun t ht => absurd ht (by simp)⟩
  have h1 := wpAnyC_of_B (P := P) (md := .any) (ops := l.toArray) (Q := Q) (g := z.length) (K := fun a w => wpList P l.toArray (stopN Q) (pickOps l.toArray z) a w) (Region.noSelect_spec hsel) (fun listed a w inv hnx hK => wpAnyC_of_Z z listed a w hnx hK) fl _ a w.drew inv0 hsim h
  have h3 := wpAny_of_C (P := P) (md := .any) (Q := Q) (g := 0) (n := l.toArray.size) (C := fun _ => True) (L := LQ .any l.toArray Q) (fun listed a w hL => hL) _ _ a w.drew h1
  refine wp_region_any hm ?_
  rw [show fl.length + z.length + 0 = l.toArray.size by omega] at h3
  exact h3
end
end Go.Proofs.Ytoffelfcmfpooaa
namespace Go.Proofs.Ytoffelfcmfpooaa
open Go.RowKit
inductive HT where
  | leaf
  | one (i : Nat) (r : HT)
  | two (i k : Nat) (r s : HT)
def HT.len : HT → Nat
  | .leaf => 0
  | .one _ r => r.len + 1
  | .two _ _ r _ => r.len + 1
section
variable {P : Program} {md : Region.Mode} {ops : Array Oper}
def wpT (P : Program) (ops : Array Oper) (Q : Exit → Act → World → Prop) (tail : List Oper) : HT → Act → World → Prop
  | .leaf, a, w => wpList P ops Q tail a w
  | .one i r, a, w => match ops[i]? with
    | none => False
    | some o =>
      if quietKind P o.op = true then (Region.wanted o (yielded ops a.tmps) = true → plainB o a = true) ∧ wpList P ops (stopQ w (wpT P ops Q tail r)) [o] a w
      else wpList P ops (stopA w (wpT P ops Q tail r)) [o] a w
  | .two i k r s, a, w => match ops[i]? with
    | none => False
    | some o => match ops[k]? with
      | none => False
      | some o' => wpList P ops (stopA w (wpT P ops Q tail r)) [o] a w ∧ wpList P ops (stopA w (wpT P ops Q tail s)) [o'] a w

theorem wpT_quiet {Q : Exit → Act → World → Prop} {tail : List Oper} {i : Nat} {r : HT} {a : Act} {w : World} {o : Oper} (hi : ops[i]? = some o) (hk : quietKind P o.op = true) (hp : plainB o a = true)
    (h : wpList P ops (stopQ w (wpT P ops Q tail r)) [o] a w) : wpT P ops Q tail (.one i r) a w := by
  simp only [wpT, hi, hk, if_true]
  exact ⟨fun _ => hp, h⟩
theorem wpT_actor {Q : Exit → Act → World → Prop} {tail : List Oper} {i : Nat} {r : HT} {a : Act} {w : World} {o : Oper} (hi : ops[i]? = some o) (hk : quietKind P o.op = false)
    (h : wpList P ops (stopA w (wpT P ops Q tail r)) [o] a w) : wpT P ops Q tail (.one i r) a w := by
  simp only [wpT, hi, hk, Bool.false_eq_true, if_false]
  exact h
theorem wpT_two {Q : Exit → Act → World → Prop} {tail : List Oper} {i k : Nat} {r s : HT} {a : Act} {w : World} {o o' : Oper} (hi : ops[i]? = some o) (hk : ops[k]? = some o')
    (h : wpList P ops (stopA w (wpT P ops Q tail r)) [o] a w) (h' : wpList P ops (stopA w (wpT P ops Q tail s)) [o'] a w) : wpT P ops Q tail (.two i k r s) a w := by
  simp only [wpT, hi, hk]
  exact ⟨h, h'⟩
theorem wpT_nil {Q : Exit → Act → World → Prop} {tail : List Oper} {a : Act} {w : World} (h : wpList P ops Q tail a w) : wpT P ops Q tail .leaf a w := h

def headT (P : Program) (md : Region.Mode) (ops : Array Oper) (n : Nat) : HT → Array Bool → Bool
  | .leaf, listed => Region.seqB md ops (ops.size - n) n listed
  | .one i r, listed => decide (i < n) && (match ops[i]? with
      | none => false
      | some o => if quietKind P o.op = true then (Region.ready md ops listed).contains i && Region.free md ops listed i else decide (Region.ready md ops listed = [i])) &&
    headT P md ops n r (listed.setIfInBounds i true)
  | .two i k r s, listed => decide (i < n) && decide (k < n) && decide (r.len = s.len) && decide (Region.ready md ops listed = [i, k]) && headT P md ops n r (listed.setIfInBounds i true) && headT P md ops n s (listed.setIfInBounds k true)
def headBT (P : Program) (md : Region.Mode) (ops : Array Oper) (n : Nat) (r : HT) : Bool :=
  Region.noSelect ops && (decide (n = ops.size) || (decide (n < ops.size) && Region.sinkB md ops n && Region.chainB md ops n)) && decide (r.len = n) && headT P md ops n r (Array.replicate ops.size false)

theorem wpOp_of_stopA {n : Nat} {Q : Exit → Act → World → Prop} {tail : List Oper} {r : HT} {j : Nat} {o : Oper} {listed : Array Bool} {a : Act} {w : World} {f : Nat} (ho : ops[j]? = some o)
    (step : ∀ a' w', stopA w (wpT P ops Q tail r) .normal a' w' → wpAnyC P md ops n (Ext w) (fun listed' a' w' => Region.seqB md ops (ops.size - n) n listed' = true ∧ wpList P ops Q tail a' w') f (listed.setIfInBounds j true) a' w')
    (h : wpList P ops (stopA w (wpT P ops Q tail r)) [o] a w) :
    wpOp P ops noQ j (wpAnyC P md ops n (Ext w) (fun listed' a' w' => Region.seqB md ops (ops.size - n) n listed' = true ∧ wpList P ops Q tail a' w') f (listed.setIfInBounds j true)) a w := by
  unfold wpOp
  simp only [ho]
  simp only [wpList] at h
  by_cases hw : Region.wanted o (yielded ops a.tmps) = true
  · rw [if_pos hw] at h ⊢
    rcases h with h | ⟨_, _, _, hx⟩
    · exact .inl (wp_off stopA_off step h)
    · exact hx.elim
  · rw [if_neg hw] at h ⊢
    exact step _ _ h

theorem wpAnyC_of_T {n : Nat} {Q : Exit → Act → World → Prop} {tail : List Oper} (hsel : ∀ (j : Nat) (o : Oper) cs b, ops[j]? = some o → o.op ≠ .select cs b) (hblk : Blocks md ops n) :
    ∀ (r : HT) (listed : Array Bool) (a : Act) (w : World), HeadInv md ops n listed → headT P md ops n r listed = true → wpT P ops Q tail r a w →
      wpAnyC P md ops n (Ext w) (fun listed' a' w' => Region.seqB md ops (ops.size - n) n listed' = true ∧ wpList P ops Q tail a' w') r.len listed a w
  | .leaf, _, _, w, _, hB, h => ⟨Ext.refl w, hB, h⟩
  | .two i k r s, listed, a, w, inv, hB, h => by
    simp only [headT, Bool.and_eq_true, decide_eq_true_eq] at hB
    obtain ⟨⟨⟨⟨⟨hin, hkn⟩, hlen⟩, hready⟩, hB1⟩, hB2⟩ := hB
    cases ho : ops[i]? with
    | none => simp only [wpT, ho] at h
    | some o =>
      cases ho' : ops[k]? with
      | none => simp only [wpT, ho, ho'] at h
      | some o' =>
        simp only [wpT, ho, ho'] at h
        have hri : i ∈ Region.ready md ops listed := by rw [hready]; simp
        have hrk : k ∈ Region.ready md ops listed := by rw [hready]; simp
        refine ⟨Ext.refl w, by rw [hready]; simp, fun j hj => ?_⟩
        rw [hready] at hj
        simp only [List.mem_cons, List.not_mem_nil, or_false] at hj
        rcases hj with rfl | rfl
        · exact ⟨hin, wpOp_of_stopA ho (fun a' w' hs => wpAnyC_mono (fun w2 h2 => hs.1.trans h2) _ _ _ _ (wpAnyC_of_T hsel hblk r _ a' w' (inv.set hri hin) hB1 hs.2)) h.1⟩
        · refine ⟨hkn, wpOp_of_stopA ho' (fun a' w' hs => ?_) h.2⟩
          have := wpAnyC_mono (fun w2 h2 => hs.1.trans h2) _ _ _ _ (wpAnyC_of_T hsel hblk s _ a' w' (inv.set hrk hkn) hB2 hs.2)
          rw [← hlen] at this
          exact this
  | .one i r, listed, a, w, inv, hB, h => by
    simp only [headT, Bool.and_eq_true, decide_eq_true_eq] at hB
    obtain ⟨⟨hin, hB1⟩, hB2⟩ := hB
    cases ho : ops[i]? with
    | none => rw [ho] at hB1; cases hB1
    | some o =>
      rw [ho] at hB1
      simp only [wpT, ho] at h
      simp only at hB1
      have hdone : ∀ (listed : Array Bool) (a : Act) (w : World), (Region.seqB md ops (ops.size - n) n listed = true ∧ wpList P ops Q tail a w) → ∀ j ∈ Region.ready md ops listed, n ≤ j := fun _ _ _ hx => seqB_ready hx.1
      by_cases hk : quietKind P o.op = true
      · rw [if_pos hk] at hB1 h
        simp only [Bool.and_eq_true] at hB1
        have hr : i ∈ Region.ready md ops listed := by simpa using hB1.1
        obtain ⟨hp, h⟩ := h
        simp only [wpList] at h
        have key : ∃ v, YieldsE P ops (Ext w) o v a ∧ wpT P ops Q tail r (a.put o.dst v) w := by
          by_cases hw : Region.wanted o (yielded ops a.tmps) = true
          · rw [if_pos hw] at h
            rcases h with h | ⟨_, _, _, hx⟩
            · have hst := Stable.op (P := P) (o := o) (a := a) hk (hp hw)
              unfold Oper.wp at h
              cases hrun : (execOp a.eval o).run P w with
              | halt x w' =>
                rw [hrun] at h
                cases x <;> simp only [Oper.upon] at h
                exact h.elim
              | ok nx w' =>
                obtain ⟨rfl, hall⟩ := hst w nx w' hrun
                rw [hrun] at h
                have hval : ∃ v, nx = .value v := by
                  obtain ⟨dst, op, type, pos, after, guard⟩ := o
                  have fromVal : ∀ {s : Sem Value}, (do Pure.pure (Next.value (← s)) : Sem Next).run P w' = .ok nx w' → ∃ v, nx = .value v := fun {s} hs => by
                    rw [Sem.run_bind] at hs
                    cases hs2 : s.run P w' with
                    | halt _ _ => rw [hs2] at hs; cases hs
                    | ok v w2 =>
                      rw [hs2] at hs
                      simp only [Result.andThen, Sem.run_pure, Result.ok.injEq] at hs
                      exact ⟨v, hs.1.symm⟩
                  cases op <;> first | exact absurd hk Bool.false_ne_true | exact fromVal hrun | skip
                  case move x => simp only [execOp, Sem.run_pure, Result.ok.injEq] at hrun; exact ⟨_, hrun.1.symm⟩
                  case assign x => simp only [execOp, Sem.run_pure, Result.ok.injEq] at hrun; exact ⟨_, hrun.1.symm⟩
                  case pick c x y =>
                    simp only [execOp, Sem.run_bind] at hrun
                    cases hs2 : (asBool (a.eval c)).run P w' with
                    | halt _ _ => rw [hs2] at hrun; cases hrun
                    | ok v w2 =>
                      rw [hs2] at hrun
                      simp only [Result.andThen, Sem.run_pure, Result.ok.injEq] at hrun
                      exact ⟨_, hrun.1.symm⟩
                  case nilCheck x =>
                    have hp' := hp hw
                    simp only [plainB] at hp'
                    simp only [execOp] at hrun
                    split at hp'
                    · rename_i ad he
                      rw [he] at hrun
                      simp only [Sem.run_pure, Result.ok.injEq] at hrun
                      exact ⟨_, hrun.1.symm⟩
                    · cases hp'
                  case call c =>
                    obtain ⟨⟨x, t⟩, hc⟩ := Option.isSome_iff_exists.1 (show (lenCall c).isSome = true from hk)
                    have hc' := lenCall_spec hc
                    subst hc'
                    refine fromVal (s := Builtin.len_ #[t] type #[a.eval x]) ?_
                    rw [← hrun]
                    simp only [execOp, resolve, invoke, builtin, Sem.run_bind, Sem.run_pure, Result.andThen_ok, List.map_toArray, List.map_cons, List.map_nil]
                obtain ⟨v, rfl⟩ := hval
                simp only [Oper.upon] at h
                exact ⟨v, .inl ⟨hw, fun w2 hw2 => hall w2 hw2⟩, h.2⟩
            · exact hx.elim
          · rw [if_neg hw] at h
            exact ⟨undef, .inr ⟨by simpa using hw, rfl⟩, h.2⟩
        obtain ⟨v, hy, hX⟩ := key
        exact take_first ho hsel hblk hin hdone r.len listed a w inv (fun j oj hj hne hun hno => Region.free_spec ho hB1.2 j oj hj hne hun hno) hr hy (Ext.refl w)
          (wpAnyC_of_T hsel hblk r _ _ w (inv.set hr hin) hB2 hX)
      · rw [if_neg hk] at hB1 h
        have hready : Region.ready md ops listed = [i] := by simpa using hB1
        have hr : i ∈ Region.ready md ops listed := by rw [hready]; simp
        refine ⟨Ext.refl w, by rw [hready]; simp, fun j hj => ?_⟩
        rw [hready] at hj
        have hji : j = i := by simpa using hj
        subst hji
        exact ⟨hin, wpOp_of_stopA ho (fun a' w' hs => wpAnyC_mono (fun w2 h2 => hs.1.trans h2) _ _ _ _ (wpAnyC_of_T hsel hblk r _ a' w' (inv.set hr hin) hB2 hs.2)) h⟩

theorem wp_region_t {id : Nat} {Q : Exit → Act → World → Prop} {a : Act} {w : World} {l : List Oper} (n : Nat) (r : HT) (hm : P.follows .mixedOrders = true) (hB : headBT P .any l.toArray n r = true)
    (h : wpT P l.toArray Q (l.drop n) r a w.drew) : (Code.region id l.toArray true).wp P Q a w := by
  simp only [headBT, Bool.and_eq_true, Bool.or_eq_true, decide_eq_true_eq] at hB
  obtain ⟨⟨⟨hsel, hcut⟩, hlen⟩, hsim⟩ := hB
  have hnl : n ≤ l.length := by
    rcases hcut with h1 | h1
    · simp at h1; omega
    · have := h1.1.1; simp at this; omega
  have hblk : Blocks .any l.toArray n := by
    rcases hcut with h1 | h1
    · intro listed _ i _ _ t ht
      obtain ⟨_, o, ho, _⟩ := mem_ready.1 ht
      have := (Array.getElem?_eq_some_iff.1 ho).1
      omega
    · intro listed inv i hin hun t ht
      rcases Nat.lt_or_ge t n with h2 | h2
      · exact h2
      · exact absurd ht (tail_waits h1.1.2 h1.2 h1.1.1 inv _ i rfl hin hun t h2)
  have inv0 : HeadInv .any l.toArray n (Array.replicate l.toArray.size false) :=
    ⟨by simp, fun j oj _ hl => (by rw [getD_replicate_false] at hl; cases hl), fun t _ ht => getD_in (by simpa using ht) (getD_replicate_false _ _)⟩
  have h1 := wpAnyC_of_T (P := P) (Region.noSelect_spec hsel) hblk r _ a w.drew inv0 hsim h
  have hdl : (l.drop n).length = l.toArray.size - n := by simp
  have h2 := wpAny_of_C (Q := Q) (g := l.toArray.size - n) (fun listed' a' w' hx => by
    rw [← hdl]
    refine wpAny_of_seq (l.drop n) n listed' a' w' (fun j => by simp [List.getElem?_drop]) ?_ hx.2
    rw [hdl]
    exact hx.1) r.len _ a w.drew h1
  refine wp_region_any hm ?_
  rw [show l.toArray.size = r.len + (l.toArray.size - n) by simp; omega]
  rw [show r.len + (l.toArray.size - n) = l.toArray.size by simp; omega]
  rw [show r.len + (l.toArray.size - n) = l.toArray.size by simp; omega] at h2
  exact h2
theorem wp_join {c : Code} {Q : Exit → Act → World → Prop} {a : Act} {w : World} (J : Act → Act → World → Prop) (h1 : c.wp P (fun e a' w' => e = .normal ∧ J a a' w') a w) (h2 : ∀ a' w', J a a' w' → Q .normal a' w') : c.wp P Q a w :=
  Code.wp_mono (Q := fun e a' w' => e = .normal ∧ J a a' w') (by rintro e a' w' ⟨rfl, h⟩; exact h2 a' w' h) h1
end
end Go.Proofs.Ytoffelfcmfpooaa
namespace Go.Proofs.Ytoffelfcmfpooaa
open Go.RowKit
section
variable {P : Program} {md : Region.Mode} {ops : Array Oper}
def wpU (P : Program) (ops : Array Oper) (Q : Exit → Act → World → Prop) (tail : List Oper) : HT → Act → World → Prop
  | .leaf, a, w => wpList P ops Q tail a w
  | .one i r, a, w => match ops[i]? with
    | none => False
    | some o =>
      if quietKind P o.op = true then (Region.wanted o (yielded ops a.tmps) = true → plainB o a = true) ∧ wpList P ops (stopQ w (wpU P ops Q tail r)) [o] a w
      else wpList P ops (stopA w (wpU P ops Q tail r)) [o] a w
  | .two i k r s, a, w => match ops[i]? with
    | none => False
    | some o => match ops[k]? with
      | none => False
      | some o' => wpList P ops (stopA w (wpU P ops Q tail r)) [o] a w ∧ wpList P ops (stopA w (wpU P ops Q tail s)) [o'] a w

theorem wpU_quiet {Q : Exit → Act → World → Prop} {tail : List Oper} {i : Nat} {r : HT} {a : Act} {w : World} {o : Oper} (hi : ops[i]? = some o) (hk : quietKind P o.op = true) (hp : plainB o a = true)
    (h : wpList P ops (stopQ w (wpU P ops Q tail r)) [o] a w) : wpU P ops Q tail (.one i r) a w := by
  simp only [wpU, hi, hk, if_true]
  exact ⟨fun _ => hp, h⟩
theorem wpU_actor {Q : Exit → Act → World → Prop} {tail : List Oper} {i : Nat} {r : HT} {a : Act} {w : World} {o : Oper} (hi : ops[i]? = some o) (hk : quietKind P o.op = false)
    (h : wpList P ops (stopA w (wpU P ops Q tail r)) [o] a w) : wpU P ops Q tail (.one i r) a w := by
  simp only [wpU, hi, hk, Bool.false_eq_true, if_false]
  exact h
theorem wpU_two {Q : Exit → Act → World → Prop} {tail : List Oper} {i k : Nat} {r s : HT} {a : Act} {w : World} {o o' : Oper} (hi : ops[i]? = some o) (hk : ops[k]? = some o')
    (h : wpList P ops (stopA w (wpU P ops Q tail r)) [o] a w) (h' : wpList P ops (stopA w (wpU P ops Q tail s)) [o'] a w) : wpU P ops Q tail (.two i k r s) a w := by
  simp only [wpU, hi, hk]
  exact ⟨h, h'⟩
theorem wpU_nil {Q : Exit → Act → World → Prop} {tail : List Oper} {a : Act} {w : World} (h : wpList P ops Q tail a w) : wpU P ops Q tail .leaf a w := h

def headU (P : Program) (md : Region.Mode) (ops : Array Oper) (n : Nat) (seq : Array Bool → Bool) : HT → Array Bool → Bool
  | .leaf, listed => seq listed
  | .one i r, listed => decide (i < n) && (match ops[i]? with
      | none => false
      | some o => if quietKind P o.op = true then (Region.ready md ops listed).contains i && Region.free md ops listed i else decide (Region.ready md ops listed = [i])) &&
    headU P md ops n seq r (listed.setIfInBounds i true)
  | .two i k r s, listed => decide (i < n) && decide (k < n) && decide (r.len = s.len) && decide (Region.ready md ops listed = [i, k]) && headU P md ops n seq r (listed.setIfInBounds i true) && headU P md ops n seq s (listed.setIfInBounds k true)
theorem wpOp_of_stopU {n : Nat} {seq : Array Bool → Bool} {Q : Exit → Act → World → Prop} {tail : List Oper} {r : HT} {j : Nat} {o : Oper} {listed : Array Bool} {a : Act} {w : World} {f : Nat} (ho : ops[j]? = some o)
    (step : ∀ a' w', stopA w (wpU P ops Q tail r) .normal a' w' → wpAnyC P md ops n (Ext w) (fun listed' a' w' => seq listed' = true ∧ wpList P ops Q tail a' w') f (listed.setIfInBounds j true) a' w')
    (h : wpList P ops (stopA w (wpU P ops Q tail r)) [o] a w) :
    wpOp P ops noQ j (wpAnyC P md ops n (Ext w) (fun listed' a' w' => seq listed' = true ∧ wpList P ops Q tail a' w') f (listed.setIfInBounds j true)) a w := by
  unfold wpOp
  simp only [ho]
  simp only [wpList] at h
  by_cases hw : Region.wanted o (yielded ops a.tmps) = true
  · rw [if_pos hw] at h ⊢
    rcases h with h | ⟨_, _, _, hx⟩
    · exact .inl (wp_off stopA_off step h)
    · exact hx.elim
  · rw [if_neg hw] at h ⊢
    exact step _ _ h

theorem wpAnyC_of_U {n : Nat} {fl : List Nat} {seq : Array Bool → Bool} {Q : Exit → Act → World → Prop} {tail : List Oper} (hsel : ∀ (j : Nat) (o : Oper) cs b, ops[j]? = some o → o.op ≠ .select cs b) (hblk : BlocksF md ops n fl) (hseq : ∀ listed, seq listed = true → ∀ j ∈ Region.ready md ops listed, n ≤ j) :
    ∀ (r : HT) (listed : Array Bool) (a : Act) (w : World), FInv md ops fl listed → headU P md ops n seq r listed = true → wpU P ops Q tail r a w →
      wpAnyC P md ops n (Ext w) (fun listed' a' w' => seq listed' = true ∧ wpList P ops Q tail a' w') r.len listed a w
  | .leaf, _, _, w, _, hB, h => ⟨Ext.refl w, hB, h⟩
  | .two i k r s, listed, a, w, inv, hB, h => by
    simp only [headU, Bool.and_eq_true, decide_eq_true_eq] at hB
    obtain ⟨⟨⟨⟨⟨hin, hkn⟩, hlen⟩, hready⟩, hB1⟩, hB2⟩ := hB
    cases ho : ops[i]? with
    | none => simp only [wpU, ho] at h
    | some o =>
      cases ho' : ops[k]? with
      | none => simp only [wpU, ho, ho'] at h
      | some o' =>
        simp only [wpU, ho, ho'] at h
        have hri : i ∈ Region.ready md ops listed := by rw [hready]; simp
        have hrk : k ∈ Region.ready md ops listed := by rw [hready]; simp
        refine ⟨Ext.refl w, by rw [hready]; simp, fun j hj => ?_⟩
        rw [hready] at hj
        simp only [List.mem_cons, List.not_mem_nil, or_false] at hj
        rcases hj with rfl | rfl
        · exact ⟨hin, wpOp_of_stopU ho (fun a' w' hs => wpAnyC_mono (fun w2 h2 => hs.1.trans h2) _ _ _ _ (wpAnyC_of_U hsel hblk hseq r _ a' w' (inv.set hri) hB1 hs.2)) h.1⟩
        · refine ⟨hkn, wpOp_of_stopU ho' (fun a' w' hs => ?_) h.2⟩
          have := wpAnyC_mono (fun w2 h2 => hs.1.trans h2) _ _ _ _ (wpAnyC_of_U hsel hblk hseq s _ a' w' (inv.set hrk) hB2 hs.2)
          rw [← hlen] at this
          exact this
  | .one i r, listed, a, w, inv, hB, h => by
    simp only [headU, Bool.and_eq_true, decide_eq_true_eq] at hB
    obtain ⟨⟨hin, hB1⟩, hB2⟩ := hB
    cases ho : ops[i]? with
    | none => rw [ho] at hB1; cases hB1
    | some o =>
      rw [ho] at hB1
      simp only [wpU, ho] at h
      simp only at hB1
      have hdone : ∀ (listed : Array Bool) (a : Act) (w : World), (seq listed = true ∧ wpList P ops Q tail a w) → ∀ j ∈ Region.ready md ops listed, n ≤ j := fun _ _ _ hx => hseq _ hx.1
      by_cases hk : quietKind P o.op = true
      · rw [if_pos hk] at hB1 h
        simp only [Bool.and_eq_true] at hB1
        have hr : i ∈ Region.ready md ops listed := by simpa using hB1.1
        obtain ⟨hp, h⟩ := h
        simp only [wpList] at h
        have key : ∃ v, YieldsE P ops (Ext w) o v a ∧ wpU P ops Q tail r (a.put o.dst v) w := by
          by_cases hw : Region.wanted o (yielded ops a.tmps) = true
          · rw [if_pos hw] at h
            rcases h with h | ⟨_, _, _, hx⟩
            · have hst := Stable.op (P := P) (o := o) (a := a) hk (hp hw)
              unfold Oper.wp at h
              cases hrun : (execOp a.eval o).run P w with
              | halt x w' =>
                rw [hrun] at h
                cases x <;> simp only [Oper.upon] at h
                exact h.elim
              | ok nx w' =>
                obtain ⟨rfl, hall⟩ := hst w nx w' hrun
                rw [hrun] at h
                have hval : ∃ v, nx = .value v := by
                  obtain ⟨dst, op, type, pos, after, guard⟩ := o
                  have fromVal : ∀ {s : Sem Value}, (do Pure.pure (Next.value (← s)) : Sem Next).run P w' = .ok nx w' → ∃ v, nx = .value v := fun {s} hs => by
                    rw [Sem.run_bind] at hs
                    cases hs2 : s.run P w' with
                    | halt _ _ => rw [hs2] at hs; cases hs
                    | ok v w2 =>
                      rw [hs2] at hs
                      simp only [Result.andThen, Sem.run_pure, Result.ok.injEq] at hs
                      exact ⟨v, hs.1.symm⟩
                  cases op <;> first | exact absurd hk Bool.false_ne_true | exact fromVal hrun | skip
                  case move x => simp only [execOp, Sem.run_pure, Result.ok.injEq] at hrun; exact ⟨_, hrun.1.symm⟩
                  case assign x => simp only [execOp, Sem.run_pure, Result.ok.injEq] at hrun; exact ⟨_, hrun.1.symm⟩
                  case pick c x y =>
                    simp only [execOp, Sem.run_bind] at hrun
                    cases hs2 : (asBool (a.eval c)).run P w' with
                    | halt _ _ => rw [hs2] at hrun; cases hrun
                    | ok v w2 =>
                      rw [hs2] at hrun
                      simp only [Result.andThen, Sem.run_pure, Result.ok.injEq] at hrun
                      exact ⟨_, hrun.1.symm⟩
                  case nilCheck x =>
                    have hp' := hp hw
                    simp only [plainB] at hp'
                    simp only [execOp] at hrun
                    split at hp'
                    · rename_i ad he
                      rw [he] at hrun
                      simp only [Sem.run_pure, Result.ok.injEq] at hrun
                      exact ⟨_, hrun.1.symm⟩
                    · cases hp'
                  case call c =>
                    obtain ⟨⟨x, t⟩, hc⟩ := Option.isSome_iff_exists.1 (show (lenCall c).isSome = true from hk)
                    have hc' := lenCall_spec hc
                    subst hc'
                    refine fromVal (s := Builtin.len_ #[t] type #[a.eval x]) ?_
                    rw [← hrun]
                    simp only [execOp, resolve, invoke, builtin, Sem.run_bind, Sem.run_pure, Result.andThen_ok, List.map_toArray, List.map_cons, List.map_nil]
                obtain ⟨v, rfl⟩ := hval
                simp only [Oper.upon] at h
                exact ⟨v, .inl ⟨hw, fun w2 hw2 => hall w2 hw2⟩, h.2⟩
            · exact hx.elim
          · rw [if_neg hw] at h
            exact ⟨undef, .inr ⟨by simpa using hw, rfl⟩, h.2⟩
        obtain ⟨v, hy, hX⟩ := key
        exact take_firstF ho hsel hblk hin hdone r.len listed a w inv (fun j oj hj hne hun hno => Region.free_spec ho hB1.2 j oj hj hne hun hno) hr hy (Ext.refl w)
          (wpAnyC_of_U hsel hblk hseq r _ _ w (inv.set hr) hB2 hX)
      · rw [if_neg hk] at hB1 h
        have hready : Region.ready md ops listed = [i] := by simpa using hB1
        have hr : i ∈ Region.ready md ops listed := by rw [hready]; simp
        refine ⟨Ext.refl w, by rw [hready]; simp, fun j hj => ?_⟩
        rw [hready] at hj
        have hji : j = i := by simpa using hj
        subst hji
        exact ⟨hin, wpOp_of_stopU ho (fun a' w' hs => wpAnyC_mono (fun w2 h2 => hs.1.trans h2) _ _ _ _ (wpAnyC_of_U hsel hblk hseq r _ a' w' (inv.set hr) hB2 hs.2)) h⟩

/-- The law's check. -/
def regK (P : Program) (md : Region.Mode) (ops : Array Oper) (n : Nat) (fl : List Nat) (r : HT) (z : List Nat) : Bool :=
  Region.noSelect ops && decide (n ≤ ops.size) && decide (fl.length + r.len + z.length = ops.size) && z.all (fun t => decide (n ≤ t)) && blockB md ops n fl &&
    bareSim P md ops (fun listed => fl.all (fun t => listed.getD t true) && headU P md ops n (seqZ md ops z) r listed) fl (Array.replicate ops.size false)
theorem wp_region_k {id : Nat} {Q : Exit → Act → World → Prop} {a : Act} {w : World} {l : List Oper} (n : Nat) (fl : List Nat) (r : HT) (z : List Nat) (hm : P.follows .mixedOrders = true) (hB : regK P .any l.toArray n fl r z = true)
    (h : wpB P l.toArray (wpU P l.toArray (stopN Q) (pickOps l.toArray z) r) fl a w.drew) : (Code.region id l.toArray true).wp P Q a w := by
  simp only [regK, Bool.and_eq_true, decide_eq_true_eq] at hB
  obtain ⟨⟨⟨⟨⟨hsel, hn⟩, hlen⟩, hz⟩, hblk⟩, hsim⟩ := hB
  have hz' : ∀ t ∈ z, n ≤ t := fun t ht => by simpa using List.all_eq_true.1 hz t ht
  have inv0 : FInv .any l.toArray [] (Array.replicate l.toArray.size false) := ⟨fun j oj _ hl => (by rw [getD_replicate_false] at hl; cases hl), fun t ht => absurd ht (by simp)⟩
  have h1 := wpAnyC_of_B (P := P) (md := .any) (ops := l.toArray) (Q := Q) (g := r.len + z.length) (K := wpU P l.toArray (stopN Q) (pickOps l.toArray z) r) (Region.noSelect_spec hsel) (fun listed a w inv hnx hK => by
    simp only [Bool.and_eq_true] at hnx
    have h2 := wpAnyC_of_U (P := P) (Region.noSelect_spec hsel) (blocksF_of hblk) (fun listed hs => seqZ_ge hz' hs) r listed a w (inv.floated hnx.1) hnx.2 hK
    exact wpAnyC_glue hn (fun listed a w hL => wpAnyC_of_Z z listed a w hL.1 hL.2) r.len listed a w h2) fl _ a w.drew inv0 hsim h
  have h3 := wpAny_of_C (P := P) (md := .any) (Q := Q) (g := 0) (n := l.toArray.size) (C := fun _ => True) (L := LQ .any l.toArray Q) (fun listed a w hL => hL) _ _ a w.drew h1
  refine wp_region_any hm ?_
  rw [show fl.length + (r.len + z.length) + 0 = l.toArray.size by omega] at h3
  exact h3
end
end Go.Proofs.Ytoffelfcmfpooaa
namespace Go.Proofs.Ytoffelfcmfpooaa
open Go.RowKit

theorem all_take {T : List IdD} {C : IdD → Bool} {i : Nat} (hi : i < T.length) (h : (T.take i).all C = true) (hc : C T[i] = true) : (T.take (i + 1)).all C = true := by
  rw [List.take_succ_eq_append_getElem hi, List.all_append, h]
  simp [hc]
theorem all_no {T : List IdD} {C : IdD → Bool} {i : Nat} (hi : i < T.length) (hc : C T[i] = false) : T.all C = false := by
  cases h : T.all C with
  | false => rfl
  | true =>
    have := List.all_eq_true.1 h T[i] (List.getElem_mem hi)
    rw [hc] at this
    cases this
set_option maxRecDepth 100000 in
set_option maxHeartbeats 4000000 in
theorem l12Ready_any (xs : List InstD) (x : IdD) (A : Option Addr) (n k : Nat) (cs : List Value) (w : World) (hn : n = xs.length) (hwt : n ≤ 1048576) (hok : instsOkB xs = true) (h : Rep anyB w (.sl 40 16 n (cat InstD.c xs) .nil) [.slice A n k]) (h' : Rep anyB w x.c cs) :
    Calls Try.prog 50 #[.slice A n k, .agg cs.toArray] w fun e w' => e = .returned (.bool (comB xs x && (reachF (depsOf xs) x).all (comB xs))) ∧ Below w.heap.size w w' := by
  have HF := Lib.hid (fun y cs W h h' => l12Find_any xs y A n k cs W hn hwt hok h h')
  have HRE := Lib.hid (fun W h h' => l12Reach_any xs x A n k cs W hn hwt hok h h')
  have hm18 := reach_len hok x
  have hX := h'
  obtain rfl := IdD.open h'
  have HR := Lib.hid h; clear h
  have HX := Lib.hid hX; clear hX h' hok hn
  generalize reachF (depsOf xs) x = T at *
  generalize comB xs = C at *
  have SB := Lib.hid (blk_new w #[.int .i64 x.rep, .int .i64 x.slot] 36)
  go_enter Try.func50, Try.ntmps50
  go_wp2_with (first | ((with_reducible show wpList _ _ _ ({ dst := _, op := Op.load 36 _, type := _, pos := _, after := _, guard := _ } :: _) _ _); refine wpList_load_row _ ⟨w.heap.size, 0, none⟩ rfl [.int .i64 x.rep, .int .i64 x.slot] agg_Id rfl (blk_cells SB.out) ?_) | fail)
  refine (HF.out x _ _ (HR.out.below (by repeat' (first | with_reducible exact Below.refl _ _ | with_reducible exact BW.out | with_reducible refine Below.setCell ?_ ?_ _ | with_reducible refine Below.alloc ?_ ?_ _ | with_reducible refine Below.drew ?_ | (simp; done) | (simp; omega) | omega))) (HX.out.below (by repeat' (first | with_reducible exact Below.refl _ _ | with_reducible exact BW.out | with_reducible refine Below.setCell ?_ ?_ _ | with_reducible refine Below.alloc ?_ ?_ _ | with_reducible refine Below.drew ?_ | (simp; done) | (simp; omega) | omega)))).mono ?_; rintro e w1 ⟨r, rfl, hr, hb⟩
  have BW := Lib.hid (show Below w.heap.size w w1 from Below.trans (by repeat' (first | with_reducible exact Below.refl _ _ | with_reducible exact BW.out | with_reducible refine Below.setCell ?_ ?_ _ | with_reducible refine Below.alloc ?_ ?_ _ | with_reducible refine Below.drew ?_ | (simp; done) | (simp; omega) | omega)) (hb.mono (by first | (simp; done) | (simp; omega) | omega)))
  have SB1 := Lib.hid (SB.out.below hb)
  clear hb SB
  rcases hr with ⟨j, hj, rfl, hc, _⟩ | ⟨rfl, hc, _⟩
  · have HC := Lib.hid hc; clear hc
    have hj0 : decide ((j : Int) < 0) = false := by simp
    go_wp2_with (first | ((with_reducible show wpList _ _ _ ({ dst := _, op := Op.load 36 _, type := _, pos := _, after := _, guard := _ } :: _) _ _); refine wpList_load_row _ ⟨w.heap.size, 0, none⟩ rfl [.int .i64 x.rep, .int .i64 x.slot] agg_Id rfl (blk_cells SB1.out) ?_) | fail)
    refine (HRE.out _ (HR.out.below BW.out) (HX.out.below BW.out)).mono ?_; rintro e w2 ⟨A2, m, c2, rfl, hm, hown, hb⟩
    have HO := Lib.hid (ownsRow_keep (base' := w.heap.size) hown (w' := w2) (fun b hb2 => ⟨Nat.le_trans BW.out.size (hown.lt b hb2).1, rfl⟩))
    have BW2 := Lib.hid (BW.out.trans (hb.mono BW.out.size))
    have hml : m ≤ 18 := by omega
    have HM := Lib.hid hm
    clear hown hb BW SB1 hm hm18
    go_wp2
    go_loopw [6] (fun ii wr => ∃ i : Nat, i ≤ m ∧ ii = .int .i64 (i : Int) ∧ (T.take i).all C = true ∧ wr.ownsRow w.heap.size 36 2 (.slice A2 m c2) m (idCells T) ∧ Below w.heap.size w wr) (fun ii _ => m - (intOf ii).toNat)
    case atStart => exact ⟨0, Nat.zero_le _, rfl, by rw [List.take_zero]; rfl, HO.out, BW2.out⟩
    case round =>
      clear HO BW2
      obtain ⟨i, hi, rfl, hall, hown, hbw⟩ := hrel
      have HALL := Lib.hid hall; clear hall
      have HO := Lib.hid hown; clear hown
      have BW := Lib.hid hbw; clear hbw
      by_cases hlt : i < m
      · have hiT : i < T.length := by have := HM.out; omega
        obtain ⟨ad, cy, rfl, _, _, hrc, hl, hce⟩ := (own_rep HO.out HM.out).elem IdD.width i hiT HM.out
        obtain rfl := IdD.open hrc
        have HYE := Lib.hid (fun h => all_take hiT HALL.out h)
        have HNO := Lib.hid (fun h => @all_no T C i hiT h)
        generalize T[i] = y at *
        have HCE := Lib.hid hce
        have HRY := Lib.hid hrc
        clear hce hrc hl
        go_wp2_with (first | ((with_reducible show wpList _ _ _ ({ dst := _, op := Op.load 36 _, type := _, pos := _, after := _, guard := _ } :: _) _ _); refine wpList_load_row _ _ rfl [.int .i64 y.rep, .int .i64 y.slot] agg_Id rfl HCE.out ?_) | fail)
        refine (HF.out y _ _ (HR.out.below BW.out) HRY.out).mono ?_; rintro e w3 ⟨r, rfl, hr, hb⟩
        have HO3 := Lib.hid (HO.out.keptBelowJ hb)
        have BW3 := Lib.hid (BW.out.trans (hb.mono BW.out.size))
        clear hb
        rcases hr with ⟨j', hj', rfl, hc, _⟩ | ⟨rfl, hc, _⟩
        · have hj0' : decide ((j' : Int) < 0) = false := by simp
          have HYY := Lib.hid (HYE.out hc)
          clear hc
          go_wp2
          exact ⟨⟨i + 1, by omega, by go_num, HYY.out, HO3.out, BW3.out⟩, by simp only [intOf]; omega⟩
        · have HNN := Lib.hid (HNO.out hc)
          clear hc
          go_wp2
          go_ret
          exact ⟨ret_eq (by rw [HC.out, HNN.out]; rfl), BW3.out⟩
      · have hie : i = m := by omega
        subst hie
        have hall : T.all C = true := by have := HALL.out; rw [HM.out, List.take_length] at this; exact this
        have HAL := Lib.hid hall; clear hall
        go_wp2
        go_ret
        exact ⟨ret_eq (by rw [HC.out, HAL.out]; rfl), BW.out⟩
  · have HC := Lib.hid hc; clear hc
    go_wp2
    go_ret
    exact ⟨ret_eq (by rw [HC.out]; rfl), BW.out⟩









































theorem fld_status (a0 a1 a2 a3 a4 a5 a6 a7 a8 a9 a10 a11 a12 a13 a14 a15 : Value) (w : World) : (Instr.field 40 (.agg #[a0, a1, a2, a3, a4, a5, a6, a7, a8, a9, a10, a11, a12, a13, a14, a15]) 3).run Try.prog w = .ok a4 w := by
  kernel_rfl
theorem wpList_fld {P : Program} (w : World) {ops : Array Oper} {rest : List Oper} {a : Act} {Q : Exit → Act → World → Prop} {t ty : TypeId} {x : Operand} {f : Nat} {ps : String} {af : Array Edge} {dst : Option Tmp} (c v : Value) (hx : a.eval x = c) (hrun : (Instr.field t c f).run P w = .ok v w)
    (hK : wpList P ops Q rest (a.put dst v) w) : wpList P ops Q ({ dst := dst, op := Op.field t x f, type := ty, pos := ps, after := af, guard := none } :: rest) a w := by
  refine wpList_plain rfl fun K hK' => ?_
  unfold Oper.wp
  simp only [execOp, hx, Sem.run_bind, hrun, Result.andThen, Sem.run_pure]
  exact hK' _ _ hK
theorem mine_row_ids {w : World} {base m c : Nat} {A : Option Addr} {l : List IdD} (h : Mine w base (.sl 36 2 m (cat IdD.c l) .nil) [.slice A m c]) : w.ownsRow base 36 2 (.slice A m c) m (idCells l) := by
  obtain ⟨F, _, ho⟩ := h
  obtain ⟨cells, F1, _, _, hrow, hc⟩ := Own.sl1.1 ho
  obtain rfl := rep_ids hc.repAny
  exact hrow
set_option maxRecDepth 100000 in
set_option maxHeartbeats 8000000 in
theorem iReady_any (xs : List InstD) (x : IdD) (A : Option Addr) (n c : Nat) (cs : List Value) (w : World) (hn : n = xs.length) (hwt : n + (cat InstD.c xs).wt ≤ 1048576) (_ : x.c.wt ≤ 1048576) (h : Rep anyB w (.sl 40 16 n (cat InstD.c xs) .nil) [.slice A n c]) (h' : Rep anyB w x.c cs) :
    Calls Try.prog 56 #[.slice A n c, .agg cs.toArray] w fun e w' => e = .returned (.bool (fReady xs x)) ∧ Below w.heap.size w w' := by
  have HOK := Lib.hid (fun W h => iInstsOk_any xs A n c W hn hwt h)
  have HRE := Lib.hid (fun W h h' => iReach_any xs x A n c cs W hn hwt (Nat.zero_le _) h h')
  have HIA := Lib.hid (fun y cs W h h' => iInstAt_any xs y A n c cs W hn hwt (Nat.zero_le _) h h')
  have hX := h'
  obtain rfl := IdD.open h'
  have HR := Lib.hid h; clear h
  have HX := Lib.hid hX; clear hX h' hn
  obtain ⟨R, hR⟩ : ∃ R, R = fReady xs x := ⟨_, rfl⟩
  rw [← hR]
  unfold fReady at hR
  have SB := Lib.hid (blk_new w #[.int .i64 x.rep, .int .i64 x.slot] 36)
  go_enter Try.func56, Try.ntmps56
  go_wp2_with fail
  refine (HOK.out _ (HR.out.below (by repeat' (first | with_reducible exact Below.refl _ _ | with_reducible exact BW.out | with_reducible refine Below.setCell ?_ ?_ _ | with_reducible refine Below.alloc ?_ ?_ _ | with_reducible refine Below.drew ?_ | (simp; done) | (simp; omega) | omega)))).mono ?_; rintro e w1 ⟨rfl, hb⟩
  have BW := Lib.hid (show Below w.heap.size w w1 from Below.trans (by repeat' (first | with_reducible exact Below.refl _ _ | with_reducible exact BW.out | with_reducible refine Below.setCell ?_ ?_ _ | with_reducible refine Below.alloc ?_ ?_ _ | with_reducible refine Below.drew ?_ | (simp; done) | (simp; omega) | omega)) (hb.mono (by first | (simp; done) | (simp; omega) | omega)))
  have SB1 := Lib.hid (SB.out.below hb)
  clear hb SB
  cases hok : instsOkB xs with
  | false =>
    rw [hok] at hR
    have HRR := Lib.hid hR; clear hR
    go_wp2
    go_ret
    exact ⟨ret_eq (by rw [HRR.out]; rfl), BW.out⟩
  | true =>
    rw [hok, Bool.true_and] at hR
    have hfr : fReach xs x = reachF (depsOf xs) x := if_pos hok
    have hT18 := reach_len hok x
    rw [hfr] at HRE
    generalize reachF (depsOf xs) x = T at *
    obtain ⟨L, hL⟩ : ∃ L, L = T ++ [x] := ⟨_, rfl⟩
    have hRL : R = L.all (comB xs) := by rw [hR, hL, List.all_append, Bool.and_comm]; simp
    have hLl : L.length = T.length + 1 := by rw [hL]; simp
    have hcell : idCells T ++ idCells [x] = idCells L := by rw [hL, idCells_app]
    have HRL := Lib.hid hRL
    have HCL := Lib.hid hcell
    have HC := Lib.hid (fun y => show comB xs y = decide ((fInstAt xs y).status = 3) from rfl)
    generalize comB xs = C at *
    clear hok HOK hR hfr hL hRL hcell
    go_wp2
    refine wp_region_k 5 [0, 7] (.one 1 (.one 3 (.two 2 4 (.one 4 .leaf) (.one 2 .leaf)))) [5, 6] (by kernel_rfl) (by kernel_rfl) ?_
    iterate 2 (refine wpB_step rfl rfl ?_; go_wp2; refine ⟨rfl, ?_⟩)
    refine wpB_nil ?_
    refine wpU_quiet rfl (by kernel_rfl) rfl ?_; refine wpList_load_row _ ⟨w.heap.size, 0, none⟩ rfl [.int .i64 x.rep, .int .i64 x.slot] agg_Id rfl (blk_cells SB1.out.drew) ?_; go_wp2; refine ⟨rfl, ?_⟩
    refine wpU_quiet rfl (by kernel_rfl) rfl ?_; refine wpList_load_row _ ⟨w.heap.size, 0, none⟩ rfl [.int .i64 x.rep, .int .i64 x.slot] agg_Id rfl (blk_cells SB1.out.drew) ?_; go_wp2; refine ⟨rfl, ?_⟩
    have BD := Lib.hid BW.out.drew
    refine wpU_two rfl rfl ?_ ?_
    · go_wp2_with fail
      refine (HRE.out _ (HR.out.below BD.out) (HX.out.below BD.out)).mono ?_; rintro e w2 ⟨A2, m, c2, rfl, hm, hmi, hb⟩
      have hown := mine_row_ids hmi
      have HM := Lib.hid hm
      have hEx := Ext.of_below hb
      have hBx := BD.out.trans (hb.mono BD.out.size)
      have HO := Lib.hid ((ownsRow_keep (base' := w.heap.size) hown (w' := w2) (fun b hb2 => ⟨Nat.le_trans BD.out.size (hown.lt b hb2).1, rfl⟩)).keptBelowJ ((Below.refl _ w2).alloc (Nat.le_refl _) (.cells #[.int .i64 x.rep, .int .i64 x.slot] 36)))
      have B2 := Lib.hid (hBx.alloc hBx.size (.cells #[.int .i64 x.rep, .int .i64 x.slot] 36))
      have XC := Lib.hid (blk_cells (blk_new w2 (#[.int .i64 x.rep, .int .i64 x.slot] : Array Value) 36))
      have hm18 : m ≤ 18 := by rw [hm]; exact hT18
      clear hown hmi hb hm BW SB1 BD
      go_wp2
      refine ⟨hEx, ?_⟩
      refine wpU_actor rfl (by kernel_rfl) ?_
      go_wp2
      refine ⟨Ext.alloc (Ext.refl _) _, ?_⟩
      clear hEx hBx
      refine wpU_nil ?_
      simp only [pickOps, List.getElem?_toArray, List.getElem?_cons_succ, List.getElem?_cons_zero]
      go_wp2_with (first
        | (at_builtin; go_must (refine wpList_app E_Id _ rfl _ _ rfl w.heap.size _ m (idCells T) rfl HO.out _ _ _ (idCells [x]) rfl ⟨rfl, fun _ => ⟨_, rfl, XC.out⟩⟩ (by simp [idCells, Value.oneCell']) (by omega) B2.out.size ?_; intro vv w4 hown4 hg4 hat4; rw [HCL.out] at hown4; obtain ⟨A4, c4, rfl, _⟩ := SlR.of_own hown4; have HO4 := Lib.hid hown4; have B4 := Lib.hid (Below.grown B2.out hg4 B2.out.size (fun k hk => (HO.out.lt k hk).1)); clear hown4 hg4 hat4))
        | fail)
      refine ⟨trivial, ?_⟩
      clear HO B2 XC
      obtain ⟨l, hl⟩ : ∃ l, l = m + 1 := ⟨_, rfl⟩
      rw [← hl] at HO4 ⊢
      have hlL : l = L.length := by rw [hl, hLl, HM.out]
      have HLL := Lib.hid hlL
      have HL1 := Lib.hid hl
      have hl19 : l ≤ 19 := by rw [hlL, hLl]; omega
      clear hl hlL
      go_wp2
      go_loopw [17] (fun ii wr => ∃ i : Nat, i ≤ l ∧ ii = .int .i64 (i : Int) ∧ (L.take i).all C = true ∧ wr.ownsRow w.heap.size 36 2 (.slice A4 l c4) l (idCells L) ∧ Below w.heap.size w wr) (fun ii _ => l - (intOf ii).toNat)
      case atStart => exact ⟨0, Nat.zero_le _, rfl, by rw [List.take_zero]; rfl, HO4.out, B4.out⟩
      case round =>
        clear HO4 B4
        obtain ⟨i, hi, rfl, hall, hown, hbw⟩ := hrel
        have HALL := Lib.hid hall; clear hall
        have HO := Lib.hid hown; clear hown
        have BW := Lib.hid hbw; clear hbw
        by_cases hlt : i < l
        · have hdl : decide ((i : Int) < (m : Int) + 1) = true := by have := HL1.out; simp; omega
          have hiT : i < L.length := by have := HLL.out; omega
          obtain ⟨ad, cy, rfl, _, _, hrc, hl, hce⟩ := (own_rep HO.out HLL.out).elem IdD.width i hiT HLL.out
          obtain rfl := IdD.open hrc
          have HYE := Lib.hid (fun h => all_take hiT HALL.out h)
          have HNO := Lib.hid (fun h => @all_no L C i hiT h)
          generalize L[i] = y at *
          have HCE := Lib.hid hce
          clear hce hrc hl
          go_wp2_with (first
            | ((with_reducible show wpList _ _ _ ({ dst := _, op := Op.load 36 _, type := _, pos := _, after := _, guard := _ } :: _) _ _); first | refine wpList_load_row _ ⟨wr.heap.size, 0, none⟩ rfl [.int .i64 y.rep, .int .i64 y.slot] agg_Id rfl (blk_cells (blk_new wr _ _)) ?_ | refine wpList_load_row _ _ rfl [.int .i64 y.rep, .int .i64 y.slot] agg_Id rfl HCE.out ?_)
            | fail)
          have hBA : ∀ o, Below wr.heap.size wr (wr.alloc o) := fun o => (Below.refl _ wr).alloc (Nat.le_refl _) o
          refine (HIA.out y _ _ (HR.out.below (BW.out.alloc BW.out.size _)) IdD.shut).mono ?_; rintro e w5 ⟨csx, rfl, hMi, hb⟩
          have hb5 : Below wr.heap.size wr w5 := (hBA _).trans (hb.mono (hBA _).size)
          have HO5 := Lib.hid (HO.out.keptBelowJ hb5)
          have BW5 := Lib.hid (BW.out.trans (hb5.mono BW.out.size))
          have hcy := HC.out y
          generalize fInstAt xs y = z at *
          obtain ⟨A0, k0, A1, k1, rfl, _⟩ := InstD.open hMi.rep.any
          clear hMi hb hb5 hBA
          by_cases hst : z.status = 3
          · have hsb : (z.status != 3) = false := by simpa using hst
            have hc : C y = true := by rw [hcy]; simpa using hst
            have HYY := Lib.hid (HYE.out hc)
            clear hst hc hcy
            go_wp2_with (first | ((with_reducible show wpList _ _ _ ({ dst := _, op := Op.field 40 _ 3, type := _, pos := _, after := _, guard := _ } :: _) _ _); refine wpList_fld _ _ _ rfl (fld_status _ _ _ _ _ _ _ _ _ _ _ _ _ _ _ _ _) ?_) | fail)
            exact ⟨⟨i + 1, by omega, by go_num, HYY.out, HO5.out, BW5.out⟩, by simp only [intOf]; omega⟩
          · have hsb : (z.status != 3) = true := by simpa using hst
            have hc : C y = false := by rw [hcy]; simpa using hst
            have HNN := Lib.hid (HNO.out hc)
            clear hst hc hcy
            go_wp2_with (first | ((with_reducible show wpList _ _ _ ({ dst := _, op := Op.field 40 _ 3, type := _, pos := _, after := _, guard := _ } :: _) _ _); refine wpList_fld _ _ _ rfl (fld_status _ _ _ _ _ _ _ _ _ _ _ _ _ _ _ _ _) ?_) | fail)
            go_ret
            exact ⟨ret_eq (by rw [HRL.out, HNN.out]; rfl), BW5.out⟩
        · have hie : i = l := by omega
          subst hie
          have hdl : decide ((i : Int) < (m : Int) + 1) = false := by have := HL1.out; simp; omega
          have hall : L.all C = true := by have := HALL.out; rw [HLL.out, List.take_length] at this; exact this
          have HAL := Lib.hid hall; clear hall
          go_wp2
          go_ret
          exact ⟨ret_eq (by rw [HRL.out, HAL.out]; rfl), BW.out⟩
    · go_wp2
      refine ⟨Ext.alloc (Ext.refl _) _, ?_⟩
      refine wpU_actor rfl (by kernel_rfl) ?_
      go_wp2_with fail
      have BA := Lib.hid (BD.out.alloc BD.out.size (.cells #[.int .i64 x.rep, .int .i64 x.slot] 36))
      refine (HRE.out _ (HR.out.below BA.out) (HX.out.below BA.out)).mono ?_; rintro e w2 ⟨A2, m, c2, rfl, hm, hmi, hb⟩
      have hown := mine_row_ids hmi
      have HM := Lib.hid hm
      have hEx := Ext.of_below hb
      have hBx := BA.out.trans (hb.mono BA.out.size)
      have HO := Lib.hid (ownsRow_keep (base' := w.heap.size) hown (w' := w2) (fun b hb2 => ⟨Nat.le_trans BA.out.size (hown.lt b hb2).1, rfl⟩))
      have B2 := Lib.hid hBx
      have XC := Lib.hid (blk_cells ((blk_new w1.drew (#[.int .i64 x.rep, .int .i64 x.slot] : Array Value) 36).below hb))
      have hm18 : m ≤ 18 := by rw [hm]; exact hT18
      clear hown hmi hb hm BW SB1 BD BA
      go_wp2
      refine ⟨hEx, ?_⟩
      clear hEx hBx
      refine wpU_nil ?_
      simp only [pickOps, List.getElem?_toArray, List.getElem?_cons_succ, List.getElem?_cons_zero]
      go_wp2_with (first
        | (at_builtin; go_must (refine wpList_app E_Id _ rfl _ _ rfl w.heap.size _ m (idCells T) rfl HO.out _ _ _ (idCells [x]) rfl ⟨rfl, fun _ => ⟨_, rfl, XC.out⟩⟩ (by simp [idCells, Value.oneCell']) (by omega) B2.out.size ?_; intro vv w4 hown4 hg4 hat4; rw [HCL.out] at hown4; obtain ⟨A4, c4, rfl, _⟩ := SlR.of_own hown4; have HO4 := Lib.hid hown4; have B4 := Lib.hid (Below.grown B2.out hg4 B2.out.size (fun k hk => (HO.out.lt k hk).1)); clear hown4 hg4 hat4))
        | fail)
      refine ⟨trivial, ?_⟩
      clear HO B2 XC
      obtain ⟨l, hl⟩ : ∃ l, l = m + 1 := ⟨_, rfl⟩
      rw [← hl] at HO4 ⊢
      have hlL : l = L.length := by rw [hl, hLl, HM.out]
      have HLL := Lib.hid hlL
      have HL1 := Lib.hid hl
      have hl19 : l ≤ 19 := by rw [hlL, hLl]; omega
      clear hl hlL
      go_wp2
      go_loopw [17] (fun ii wr => ∃ i : Nat, i ≤ l ∧ ii = .int .i64 (i : Int) ∧ (L.take i).all C = true ∧ wr.ownsRow w.heap.size 36 2 (.slice A4 l c4) l (idCells L) ∧ Below w.heap.size w wr) (fun ii _ => l - (intOf ii).toNat)
      case atStart => exact ⟨0, Nat.zero_le _, rfl, by rw [List.take_zero]; rfl, HO4.out, B4.out⟩
      case round =>
        clear HO4 B4
        obtain ⟨i, hi, rfl, hall, hown, hbw⟩ := hrel
        have HALL := Lib.hid hall; clear hall
        have HO := Lib.hid hown; clear hown
        have BW := Lib.hid hbw; clear hbw
        by_cases hlt : i < l
        · have hdl : decide ((i : Int) < (m : Int) + 1) = true := by have := HL1.out; simp; omega
          have hiT : i < L.length := by have := HLL.out; omega
          obtain ⟨ad, cy, rfl, _, _, hrc, hl, hce⟩ := (own_rep HO.out HLL.out).elem IdD.width i hiT HLL.out
          obtain rfl := IdD.open hrc
          have HYE := Lib.hid (fun h => all_take hiT HALL.out h)
          have HNO := Lib.hid (fun h => @all_no L C i hiT h)
          generalize L[i] = y at *
          have HCE := Lib.hid hce
          clear hce hrc hl
          go_wp2_with (first
            | ((with_reducible show wpList _ _ _ ({ dst := _, op := Op.load 36 _, type := _, pos := _, after := _, guard := _ } :: _) _ _); first | refine wpList_load_row _ ⟨wr.heap.size, 0, none⟩ rfl [.int .i64 y.rep, .int .i64 y.slot] agg_Id rfl (blk_cells (blk_new wr _ _)) ?_ | refine wpList_load_row _ _ rfl [.int .i64 y.rep, .int .i64 y.slot] agg_Id rfl HCE.out ?_)
            | fail)
          have hBA : ∀ o, Below wr.heap.size wr (wr.alloc o) := fun o => (Below.refl _ wr).alloc (Nat.le_refl _) o
          refine (HIA.out y _ _ (HR.out.below (BW.out.alloc BW.out.size _)) IdD.shut).mono ?_; rintro e w5 ⟨csx, rfl, hMi, hb⟩
          have hb5 : Below wr.heap.size wr w5 := (hBA _).trans (hb.mono (hBA _).size)
          have HO5 := Lib.hid (HO.out.keptBelowJ hb5)
          have BW5 := Lib.hid (BW.out.trans (hb5.mono BW.out.size))
          have hcy := HC.out y
          generalize fInstAt xs y = z at *
          obtain ⟨A0, k0, A1, k1, rfl, _⟩ := InstD.open hMi.rep.any
          clear hMi hb hb5 hBA
          by_cases hst : z.status = 3
          · have hsb : (z.status != 3) = false := by simpa using hst
            have hc : C y = true := by rw [hcy]; simpa using hst
            have HYY := Lib.hid (HYE.out hc)
            clear hst hc hcy
            go_wp2_with (first | ((with_reducible show wpList _ _ _ ({ dst := _, op := Op.field 40 _ 3, type := _, pos := _, after := _, guard := _ } :: _) _ _); refine wpList_fld _ _ _ rfl (fld_status _ _ _ _ _ _ _ _ _ _ _ _ _ _ _ _ _) ?_) | fail)
            exact ⟨⟨i + 1, by omega, by go_num, HYY.out, HO5.out, BW5.out⟩, by simp only [intOf]; omega⟩
          · have hsb : (z.status != 3) = true := by simpa using hst
            have hc : C y = false := by rw [hcy]; simpa using hst
            have HNN := Lib.hid (HNO.out hc)
            clear hst hc hcy
            go_wp2_with (first | ((with_reducible show wpList _ _ _ ({ dst := _, op := Op.field 40 _ 3, type := _, pos := _, after := _, guard := _ } :: _) _ _); refine wpList_fld _ _ _ rfl (fld_status _ _ _ _ _ _ _ _ _ _ _ _ _ _ _ _ _) ?_) | fail)
            go_ret
            exact ⟨ret_eq (by rw [HRL.out, HNN.out]; rfl), BW5.out⟩
        · have hie : i = l := by omega
          subst hie
          have hdl : decide ((i : Int) < (m : Int) + 1) = false := by have := HL1.out; simp; omega
          have hall : L.all C = true := by have := HALL.out; rw [HLL.out, List.take_length] at this; exact this
          have HAL := Lib.hid hall; clear hall
          go_wp2
          go_ret
          exact ⟨ret_eq (by rw [HRL.out, HAL.out]; rfl), BW.out⟩

end Go.Proofs.Ytoffelfcmfpooaa
namespace Go.Proofs.Ytoffelfcmfpooaa
open Go.RowKit

theorem hasB_dec (xs : List IdD) (x : IdD) : hasB xs x = decide (x ∈ xs) := by
  unfold hasB
  rw [Bool.eq_iff_iff]
  simp
theorem may_yes {xs : List InstD} {p t : List IdD} (h : ∀ i (hi : i < p.length), ∀ j (hj : j < (depsOf xs p[i]).length), (depsOf xs p[i])[j] ∈ p ∨ (depsOf xs p[i])[j] ∈ t) : mayS xs p t = true := by
  unfold mayS
  rw [List.all_eq_true]
  intro y hy
  obtain ⟨i, hi, rfl⟩ := List.getElem_of_mem hy
  rw [List.all_eq_true]
  intro d hd
  obtain ⟨j, hj, rfl⟩ := List.getElem_of_mem hd
  simpa using h i hi j hj
theorem may_no {xs : List InstD} {p t : List IdD} {i : Nat} (hi : i < p.length) {j : Nat} (hj : j < (depsOf xs p[i]).length) (h1 : (depsOf xs p[i])[j] ∉ p) (h2 : (depsOf xs p[i])[j] ∉ t) : mayS xs p t = false := by
  cases hh : mayS xs p t with
  | false => rfl
  | true =>
    unfold mayS at hh
    have := List.all_eq_true.1 (List.all_eq_true.1 hh p[i] (List.getElem_mem hi)) _ (List.getElem_mem hj)
    simp [h1, h2] at this
theorem id_shut2 (x : IdD) (w : World) : Rep anyB w x.c [.int .i64 x.rep, .int .i64 x.slot] := Rep.int.2 ⟨_, rfl, Rep.int.2 ⟨_, rfl, Rep.nil.2 rfl⟩⟩
theorem deps_len {xs : List InstD} (hok : instsOkB xs = true) (y : IdD) : (depsOf xs y).length ≤ 18 := ok_len (asc_nodup (depsOf_asc hok y)) (depsOf_all hok y)

set_option maxRecDepth 100000 in
set_option maxHeartbeats 4000000 in
theorem l12May_any (xs : List InstD) (p t : List IdD) (A : Option Addr) (n k : Nat) (A1 : Option Addr) (m1 c1 : Nat) (A2 : Option Addr) (m2 c2 : Nat) (w : World) (hn : n = xs.length) (hwt : n ≤ 1048576) (hok : instsOkB xs = true)
    (h1 : m1 = p.length) (hw1 : m1 ≤ 1048576) (h2 : m2 = t.length) (hw2 : m2 ≤ 1048576)
    (h : Rep anyB w (.sl 40 16 n (cat InstD.c xs) .nil) [.slice A n k]) (hp : Rep anyB w (.sl 36 2 m1 (cat IdD.c p) .nil) [.slice A1 m1 c1]) (ht : Rep anyB w (.sl 36 2 m2 (cat IdD.c t) .nil) [.slice A2 m2 c2]) :
    Calls Try.prog 52 #[.slice A n k, .slice A1 m1 c1, .slice A2 m2 c2] w fun e w' => e = .returned (.bool (mayS xs p t)) ∧ Below w.heap.size w w' := by
  obtain ⟨R, hR⟩ : ∃ R, R = mayS xs p t := ⟨_, rfl⟩
  rw [← hR]
  have HY := Lib.hid (fun hh => hR.trans (@may_yes xs p t hh))
  have HNO := Lib.hid (fun i hi j hj hh1 hh2 => hR.trans (@may_no xs p t i hi j hj hh1 hh2)); clear hR
  have HD := Lib.hid (fun y cs W hh hh' => l12Deps_any xs y A n k cs W hn hwt hok hh hh')
  have HDL := Lib.hid (fun y => deps_len hok y)
  have HHP := Lib.hid (fun y cs W hh hh' => l8Has_any p y A1 m1 c1 cs W h1 hw1 hh hh')
  have HHT := Lib.hid (fun y cs W hh hh' => l8Has_any t y A2 m2 c2 cs W h2 hw2 hh hh')
  have HR := Lib.hid h; clear h
  have HP := Lib.hid hp; clear hp
  have HT := Lib.hid ht; clear ht
  have H1 := Lib.hid h1; clear h1
  clear hn hok h2
  go_enter Try.func52, Try.ntmps52
  go_wp2
  go_loopw [7] (fun ii wr => ∃ i : Nat, i ≤ m1 ∧ ii = .int .i64 (i : Int) ∧ (∀ q (hq : q < p.length), q < i → ∀ j (hj : j < (depsOf xs p[q]).length), (depsOf xs p[q])[j] ∈ p ∨ (depsOf xs p[q])[j] ∈ t) ∧ Below w.heap.size w wr) (fun ii _ => m1 - (intOf ii).toNat)
  case atStart => exact ⟨0, Nat.zero_le _, rfl, fun q _ hq => absurd hq (Nat.not_lt_zero _), Below.refl _ _⟩
  case round =>
    obtain ⟨i, hi, rfl, hall, hbel⟩ := hrel
    have HA := Lib.hid hall; clear hall
    have BW := Lib.hid hbel; clear hbel
    by_cases hlt : i < m1
    · have hip : i < p.length := by have := H1.out; omega
      obtain ⟨ad, ci, rfl, _, _, hrc, hl, hc⟩ := (HP.out.below BW.out).elem IdD.width i hip H1.out
      obtain rfl := IdD.open hrc
      have HRC := Lib.hid hrc; clear hrc
      have HC := Lib.hid hc; clear hc hl
      go_wp2_with (first | ((with_reducible show wpList _ _ _ ({ dst := _, op := Op.load 36 _, type := _, pos := _, after := _, guard := _ } :: _) _ _); refine wpList_load_row _ (ad.add (i * 2)) rfl [.int .i64 _, .int .i64 _] agg_Id rfl HC.out ?_) | fail)
      refine (HD.out p[i] _ _ (HR.out.below BW.out) HRC.out).mono ?_
      rintro e v1 ⟨A3, md, c3, rfl, hmd, hrd, hb⟩
      have HMD := Lib.hid hmd; clear hmd
      have HRD := Lib.hid hrd; clear hrd
      have X := Lib.hid (BW.out.trans (hb.mono BW.out.size)); clear BW hb
      have BW := Lib.hid X.out; clear X
      have hmd18 : md ≤ 18 := by rw [HMD.out]; exact HDL.out _
      have HNI := Lib.hid (fun j hj => HNO.out i hip j hj)
      have HST := Lib.hid (show (∀ j (hj : j < (depsOf xs p[i]).length), (depsOf xs p[i])[j] ∈ p ∨ (depsOf xs p[i])[j] ∈ t) → ∀ q (hq : q < p.length), q < i + 1 → ∀ j (hj : j < (depsOf xs p[q]).length), (depsOf xs p[q])[j] ∈ p ∨ (depsOf xs p[q])[j] ∈ t from fun hh q hq hqi => by
        by_cases e : q = i
        · subst e; exact hh
        · exact HA.out q hq (by omega))
      clear HA HC HRC
      generalize depsOf xs p[i] = D at *
      go_wp2
      go_loopw [9] (fun jj ws => ∃ j : Nat, j ≤ md ∧ jj = .int .i64 (j : Int) ∧ (∀ q (hq : q < D.length), q < j → D[q] ∈ p ∨ D[q] ∈ t) ∧ Below v1.heap.size v1 ws) (fun jj _ => md - (intOf jj).toNat)
      case atStart => exact ⟨0, Nat.zero_le _, rfl, fun q _ hq => absurd hq (Nat.not_lt_zero _), Below.refl _ _⟩
      case round =>
        obtain ⟨j, hj, rfl, hall2, hbel2⟩ := hrel
        have HA2 := Lib.hid hall2; clear hall2
        have CV := Lib.hid hbel2
        have CW := Lib.hid (BW.out.trans (hbel2.mono BW.out.size)); clear hbel2
        by_cases hlt2 : j < md
        · have hjd : j < D.length := by have := HMD.out; omega
          obtain ⟨ad2, cj, rfl, _, _, hrc2, hl2, hc2⟩ := (HRD.out.below CV.out).elem IdD.width j hjd HMD.out
          obtain rfl := IdD.open hrc2
          have HR2 := Lib.hid hrc2; clear hrc2 hl2
          have HC2 := Lib.hid hc2; clear hc2
          have HN1 := Lib.hid (HNI.out j hjd)
          have HS1 := Lib.hid (show (D[j] ∈ p ∨ D[j] ∈ t) → ∀ q (hq : q < D.length), q < j + 1 → D[q] ∈ p ∨ D[q] ∈ t from fun hh q hq hqj => by
            by_cases e : q = j
            · subst e; exact hh
            · exact HA2.out q hq (by omega))
          clear HA2
          generalize D[j] = d at *
          go_wp2_with (first | ((with_reducible show wpList _ _ _ ({ dst := _, op := Op.load 36 _, type := _, pos := _, after := _, guard := _ } :: _) _ _); refine wpList_load_row_g _ (by rfl) (ad2.add (j * 2)) rfl [.int .i64 _, .int .i64 _] agg_Id rfl HC2.out ?_) | fail)
          refine (HHP.out d _ _ (HP.out.below CW.out) HR2.out).mono ?_
          rintro e v2 ⟨rfl, hb⟩
          have C2 := Lib.hid (show ∀ f u, [Value.int .i64 d.rep, .int .i64 d.slot][f]? = some u → v2.cell? ((ad2.add (j * 2)).add f) = some u from fun f u hu => by
            have h1 := HC2.out f u hu
            rw [World.cell?_of_block (hb.block _ (World.block_lt_of_cell? _ _ h1))]; exact h1)
          have D2 := Lib.hid (CV.out.trans (hb.mono CV.out.size))
          have E2 := Lib.hid (CW.out.trans (hb.mono CW.out.size))
          have F2 := Lib.hid (HR2.out.below hb); clear hb HC2 HR2 CV CW
          rw [hasB_dec]
          cases h1 : decide (d ∈ p) with
          | true =>
            have hm1 := of_decide_eq_true h1
            go_wp2
            exact ⟨⟨j + 1, by omega, by go_num, HS1.out (.inl hm1), D2.out⟩, by simp only [intOf]; omega⟩
          | false =>
            have HM1 := Lib.hid (of_decide_eq_false h1); clear h1
            go_wp2_with (first | ((with_reducible show wpList _ _ _ ({ dst := _, op := Op.load 36 _, type := _, pos := _, after := _, guard := _ } :: _) _ _); refine wpList_load_row_g _ (by rfl) (ad2.add (j * 2)) rfl [.int .i64 _, .int .i64 _] agg_Id rfl C2.out ?_) | fail)
            refine (HHT.out d _ _ (HT.out.below E2.out) F2.out).mono ?_
            rintro e v3 ⟨rfl, hb⟩
            have D3 := Lib.hid (D2.out.trans (hb.mono D2.out.size))
            have E3 := Lib.hid (E2.out.trans (hb.mono E2.out.size)); clear hb
            rw [hasB_dec]
            cases h2 : decide (d ∈ t) with
            | true =>
              have hm2 := of_decide_eq_true h2
              go_wp2
              exact ⟨⟨j + 1, by omega, by go_num, HS1.out (.inr hm2), D3.out⟩, by simp only [intOf]; omega⟩
            | false =>
              have HF := Lib.hid (HN1.out HM1.out (of_decide_eq_false h2)); clear h2
              go_wp2
              go_ret
              exact ⟨ret_eq (by rw [HF.out]; rfl), E3.out⟩
        · have hjn : j = md := by omega
          subst hjn
          have HS := Lib.hid (HST.out (fun q hq => HA2.out q hq (by have := HMD.out; omega)))
          go_wp2
          exact ⟨⟨i + 1, by omega, by go_num, HS.out, CW.out⟩, by simp only [intOf]; omega⟩
    · have hjn : i = m1 := by omega
      subst hjn
      have HF := Lib.hid (HY.out (fun q hq => HA.out q hq (by have := H1.out; omega)))
      go_wp2
      go_ret
      exact ⟨ret_eq (by rw [HF.out]; rfl), BW.out⟩

end Go.Proofs.Ytoffelfcmfpooaa
