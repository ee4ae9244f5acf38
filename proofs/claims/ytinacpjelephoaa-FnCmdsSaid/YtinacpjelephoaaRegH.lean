/-
  A law for regions that draw their order, with operations that touch no memory (addresses of fields) taken first wherever they stand, then a head in one order, then a tail in one order. Conditions: those that the law's Bool checks ask.
-/
import Derived.Test.YtinacpjelephoaaRegion
namespace Go.Proofs.Ytinacpjelephoaa
open Go.RowKit
section
variable {P : Program} {md : Region.Mode} {ops : Array Oper}

/-! ### the invariant: what is listed is closed under what it waits for; the floats are listed -/
structure FInv (md : Region.Mode) (ops : Array Oper) (fl : List Nat) (listed : Array Bool) : Prop where
  closed : ∀ j oj, ops[j]? = some oj → listed.getD j false = true → ∀ e ∈ oj.after, Region.binds md e = true → listed.getD e.on false = true
  floats : ∀ t ∈ fl, listed.getD t true = true
theorem FInv.set {fl : List Nat} {i : Nat} {listed : Array Bool} (inv : FInv md ops fl listed) (hi : i ∈ Region.ready md ops listed) : FInv md ops fl (listed.setIfInBounds i true) := by
  obtain ⟨_, oi, hoi, hall⟩ := mem_ready.1 hi
  refine ⟨fun j oj hj hl e he hb => ?_, fun t ht => ?_⟩
  · by_cases hij : i = j
    · subst hij
      have : oj = oi := Option.some.inj (hj.symm.trans hoi)
      subst this
      exact getD_set_true (hall e he hb)
    · rw [getD_set_ne false hij] at hl
      exact getD_set_true (inv.closed j oj hj hl e he hb)
  · by_cases hij : i = t
    · subst hij
      rcases Nat.lt_or_ge i listed.size with h | h
      · simp [h]
      · simp [h]
    · rw [getD_set_ne true hij]
      exact inv.floats t ht
def waitsB (md : Region.Mode) (ops : Array Oper) : Nat → Nat → Nat → Bool
  | 0, _, _ => false
  | f + 1, t, i => match ops[t]? with
    | none => false
    | some o => o.after.toList.any fun e => Region.binds md e && (e.on == i || waitsB md ops f e.on i)
theorem waitsB_listed {fl : List Nat} {listed : Array Bool} (inv : FInv md ops fl listed) : ∀ (f t i : Nat), listed.getD t false = true → waitsB md ops f t i = true → listed.getD i false = true
  | 0, _, _, _, h => by simp [waitsB] at h
  | f + 1, t, i, ht, h => by
    simp only [waitsB] at h
    split at h
    · cases h
    · rename_i o ho
      obtain ⟨e, he, hb⟩ := List.any_eq_true.1 h
      simp only [Bool.and_eq_true, Bool.or_eq_true, beq_iff_eq] at hb
      have hl := inv.closed t o ho ht e (by simpa using he) hb.1
      rcases hb.2 with h1 | h1
      · rw [← h1]; exact hl
      · exact waitsB_listed inv f e.on i hl h1
theorem ready_waits {fl : List Nat} {listed : Array Bool} (inv : FInv md ops fl listed) {f t i : Nat} (ht : t ∈ Region.ready md ops listed) (h : waitsB md ops f t i = true) : listed.getD i false = true := by
  obtain ⟨_, o, ho, hall⟩ := mem_ready.1 ht
  cases f with
  | zero => simp [waitsB] at h
  | succ f =>
    simp only [waitsB, ho] at h
    obtain ⟨e, he, hb⟩ := List.any_eq_true.1 h
    simp only [Bool.and_eq_true, Bool.or_eq_true, beq_iff_eq] at hb
    have hl := hall e (by simpa using he) hb.1
    rcases hb.2 with h1 | h1
    · rw [← h1]; exact hl
    · exact waitsB_listed inv f e.on i hl h1
/-- the head is done before anything but a float of the tail comes up -/
def blockB (md : Region.Mode) (ops : Array Oper) (n : Nat) (fl : List Nat) : Bool :=
  (List.range ops.size).all fun t => decide (t < n) || fl.contains t || (List.range n).all fun i => fl.contains i || waitsB md ops ops.size t i
def BlocksF (md : Region.Mode) (ops : Array Oper) (n : Nat) (fl : List Nat) : Prop := ∀ listed, FInv md ops fl listed → ∀ i, i < n → listed.getD i true = false → ∀ t ∈ Region.ready md ops listed, t < n
theorem blocksF_of {n : Nat} {fl : List Nat} (h : blockB md ops n fl = true) : BlocksF md ops n fl := by
  intro listed inv i hin hun t ht
  have hts : t < ops.size := by
    obtain ⟨_, o, ho, _⟩ := mem_ready.1 ht
    exact (Array.getElem?_eq_some_iff.1 ho).1
  have h1 := List.all_eq_true.1 h t (List.mem_range.2 hts)
  simp only [Bool.or_eq_true, decide_eq_true_eq] at h1
  rcases h1 with (h1 | h1) | h1
  · exact h1
  · have h2 := inv.floats t (by simpa using h1)
    have h3 := (mem_ready.1 ht).1
    rw [h2] at h3; cases h3
  · have h2 := List.all_eq_true.1 h1 i (List.mem_range.2 hin)
    simp only [Bool.or_eq_true] at h2
    rcases h2 with h2 | h2
    · have h3 := inv.floats i (by simpa using h2)
      rw [h3] at hun; cases hun
    · have h3 := ready_waits inv ht h2
      rw [getD_both hun] at h3; cases h3

theorem take_firstF {n i : Nat} {fl : List Nat} {oi : Oper} {v : Value} {C : World → Prop} {L : Array Bool → Act → World → Prop} (hi : ops[i]? = some oi) (hsel : ∀ (j : Nat) (o : Oper) cs b, ops[j]? = some o → o.op ≠ .select cs b)
    (hblk : BlocksF md ops n fl) (hin : i < n) (hdone : ∀ listed a w, L listed a w → ∀ j ∈ Region.ready md ops listed, n ≤ j) :
    ∀ (f : Nat) (listed : Array Bool) (a : Act) (w : World), FInv md ops fl listed →
      (∀ j oj, ops[j]? = some oj → j ≠ i → listed.getD j true = false → (∀ e ∈ oj.after, Region.binds md e = true → e.on ≠ i) → oi.apart ops oj = true) →
      i ∈ Region.ready md ops listed → YieldsE P ops C oi v a → C w →
      wpAnyC P md ops n C L f (listed.setIfInBounds i true) (a.put oi.dst v) w → wpAnyC P md ops n C L (f + 1) listed a w := by
  intro f
  induction f with
  | zero =>
    intro listed a w inv _ hr hy hw H
    have hun := (mem_ready.1 hr).1
    refine ⟨hw, fun h => (by rw [h] at hr; cases hr), fun j hj => ?_⟩
    have hjn := hblk listed inv i hin hun j hj
    refine ⟨hjn, ?_⟩
    by_cases hji : j = i
    · subst hji
      exact hy.go hi hw H
    · have := hdone _ _ _ H.2 j (ready_mono hj hji)
      omega
  | succ f ih =>
    intro listed a w inv hfree hr hy hw H
    have hun := (mem_ready.1 hr).1
    refine ⟨hw, fun h => (by rw [h] at hr; cases hr), fun j hj => ?_⟩
    have hjn := hblk listed inv i hin hun j hj
    refine ⟨hjn, ?_⟩
    by_cases hji : j = i
    · subst hji
      exact hy.go hi hw H
    · have h1 := (H.2.2 j (ready_mono hj hji)).2
      obtain ⟨hjun, oj, hoj, hall⟩ := mem_ready.1 hj
      have hnot : ∀ e ∈ oj.after, Region.binds md e = true → e.on ≠ i := fun e he hb heq => by
        have h1 := hall e he hb
        rw [heq, getD_both hun] at h1
        cases h1
      have h2 := move_past hoj (hfree j oj hoj hji hjun hnot) (fun cs b => hsel i oi cs b hi) (fun cs b => hsel j oj cs b hoj) hy h1
      have hfree' : ∀ k ok, ops[k]? = some ok → k ≠ i → (listed.setIfInBounds j true).getD k true = false →
          (∀ e ∈ ok.after, Region.binds md e = true → e.on ≠ i) → oi.apart ops ok = true := fun k ok hk hki hun2 hno => by
        refine hfree k ok hk hki ?_ hno
        by_cases hjk : j = k
        · subst hjk; exact hjun
        · rw [getD_set_ne true hjk] at hun2; exact hun2
      refine wpOp_mono (fun a' w' h3 => ?_) h2
      have hcw : C w' := by
        cases f with
        | zero => exact h3.2.1
        | succ f => exact h3.2.1
      refine ih (listed.setIfInBounds j true) a' w' (inv.set hj) hfree' (ready_mono hr (Ne.symm hji)) h3.1 hcw ?_
      rw [Array.setIfInBounds_comm _ _ hji]
      exact h3.2

/-! ### a head in one order: reads, structs built, actors -/
def buildOf : Op → Option (TypeId × Array (Nat × Operand))
  | .build t parts => some (t, parts)
  | _ => none
theorem buildOf_spec {op : Op} {t : TypeId} {parts : Array (Nat × Operand)} (h : buildOf op = some (t, parts)) : op = .build t parts := by
  cases op <;> simp [buildOf] at h
  obtain ⟨rfl, rfl⟩ := h
  rfl
def wpH (P : Program) (ops : Array Oper) (Q : Exit → Act → World → Prop) (tail : List Oper) : List Nat → Act → World → Prop
  | [], a, w => wpList P ops Q tail a w
  | i :: r, a, w => match ops[i]? with
    | none => False
    | some o => match buildOf o.op with
      | some (t, parts) => o.guard = none ∧ ∃ cells, P.built t (parts.map fun (i, x) => (i, a.eval x)).toList = some cells ∧ wpH P ops Q tail r (a.put o.dst (.agg cells)) w
      | none =>
        if quietKind P o.op = true then (Region.wanted o (yielded ops a.tmps) = true → plainB o a = true) ∧ wpList P ops (stopQ w (wpH P ops Q tail r)) [o] a w
        else wpList P ops (stopA w (wpH P ops Q tail r)) [o] a w
section
variable {Q : Exit → Act → World → Prop} {tail : List Oper} {i : Nat} {r : List Nat} {a : Act} {w : World} {o : Oper}
theorem wpH_build (hi : ops[i]? = some o) {t : TypeId} {parts : Array (Nat × Operand)} (hb : buildOf o.op = some (t, parts)) (hg : o.guard = none) (cells : Array Value) (hc : P.built t (parts.map fun (i, x) => (i, a.eval x)).toList = some cells)
    (h : wpH P ops Q tail r (a.put o.dst (.agg cells)) w) : wpH P ops Q tail (i :: r) a w := by
  simp only [wpH, hi, hb]; exact ⟨hg, cells, hc, h⟩
theorem wpH_quiet (hi : ops[i]? = some o) (hb : buildOf o.op = none) (hk : quietKind P o.op = true) (hp : plainB o a = true)
    (h : wpList P ops (stopQ w (wpH P ops Q tail r)) [o] a w) : wpH P ops Q tail (i :: r) a w := by
  simp only [wpH, hi, hb, hk, if_true]
  exact ⟨fun _ => hp, h⟩
theorem wpH_actor (hi : ops[i]? = some o) (hb : buildOf o.op = none) (hk : quietKind P o.op = false)
    (h : wpList P ops (stopA w (wpH P ops Q tail r)) [o] a w) : wpH P ops Q tail (i :: r) a w := by
  simp only [wpH, hi, hb, hk, Bool.false_eq_true, if_false]
  exact h
theorem wpH_nil (h : wpList P ops Q tail a w) : wpH P ops Q tail [] a w := h
end
theorem execOp_build {a : Act} {o : Oper} {t : TypeId} {parts : Array (Nat × Operand)} (hb : buildOf o.op = some (t, parts)) {cells : Array Value} (hc : P.built t (parts.map fun (i, x) => (i, a.eval x)).toList = some cells) (w : World) :
    (execOp a.eval o).run P w = .ok (.value (.agg cells)) w := by
  obtain ⟨dst, op, type, pos, after, guard⟩ := o
  have := buildOf_spec hb
  simp only at this
  subst this
  show (do Pure.pure (Next.value (← Instr.build t (parts.map fun (i, x) => (i, a.eval x)))) : Sem Next).run P w = _
  rw [Sem.run_bind, run_build w t _ cells hc]
  simp only [Result.andThen, Sem.run_pure]

def headSimF (P : Program) (md : Region.Mode) (ops : Array Oper) (n : Nat) (seq : Array Bool → Bool) : List Nat → Array Bool → Bool
  | [], listed => seq listed
  | i :: r, listed => decide (i < n) && (match ops[i]? with
      | none => false
      | some o => if (buildOf o.op).isSome || quietKind P o.op then (Region.ready md ops listed).contains i && Region.free md ops listed i else decide (Region.ready md ops listed = [i])) &&
    headSimF P md ops n seq r (listed.setIfInBounds i true)

theorem wpAnyC_of_XF {n : Nat} {fl : List Nat} {Q : Exit → Act → World → Prop} {tail : List Oper} {seq : Array Bool → Bool} (hsel : ∀ (j : Nat) (o : Oper) cs b, ops[j]? = some o → o.op ≠ .select cs b) (hblk : BlocksF md ops n fl) (hseq : ∀ listed, seq listed = true → ∀ j ∈ Region.ready md ops listed, n ≤ j) :
    ∀ (r : List Nat) (listed : Array Bool) (a : Act) (w : World), FInv md ops fl listed → headSimF P md ops n seq r listed = true → wpH P ops Q tail r a w →
      wpAnyC P md ops n (Ext w) (fun listed' a' w' => seq listed' = true ∧ wpList P ops Q tail a' w') r.length listed a w
  | [], _, _, w, _, hB, h => ⟨Ext.refl w, hB, h⟩
  | i :: r, listed, a, w, inv, hB, h => by
    simp only [headSimF, Bool.and_eq_true, decide_eq_true_eq] at hB
    obtain ⟨⟨hin, hB1⟩, hB2⟩ := hB
    cases ho : ops[i]? with
    | none => rw [ho] at hB1; cases hB1
    | some o =>
      rw [ho] at hB1
      simp only [wpH, ho] at h
      simp only at hB1
      have hdone : ∀ (listed : Array Bool) (a : Act) (w : World), (seq listed = true ∧ wpList P ops Q tail a w) → ∀ j ∈ Region.ready md ops listed, n ≤ j := fun _ _ _ hx => hseq _ hx.1
      cases hbo : buildOf o.op with
      | some tp =>
        obtain ⟨t, parts⟩ := tp
        rw [hbo] at hB1 h
        simp only [Option.isSome_some, Bool.true_or, if_true, Bool.and_eq_true] at hB1
        have hr : i ∈ Region.ready md ops listed := by simpa using hB1.1
        obtain ⟨hg, cells, hc, hX⟩ := h
        have hw : Region.wanted o (yielded ops a.tmps) = true := by simp [Region.wanted, hg]
        exact take_firstF ho hsel hblk hin hdone r.length listed a w inv (fun j oj hj hne hun hno => Region.free_spec ho hB1.2 j oj hj hne hun hno) hr (.inl ⟨hw, fun w2 _ => execOp_build hbo hc w2⟩) (Ext.refl w)
          (wpAnyC_of_XF hsel hblk hseq r _ _ w (inv.set hr) hB2 hX)
      | none =>
      rw [hbo] at hB1 h
      simp only [Option.isSome_none, Bool.false_or] at hB1 h
      by_cases hk : quietKind P o.op = true
      · rw [if_pos hk] at hB1 h
        simp only [Bool.and_eq_true] at hB1
        have hr : i ∈ Region.ready md ops listed := by simpa using hB1.1
        obtain ⟨hp, h⟩ := h
        simp only [wpList] at h
        have key : ∃ v, YieldsE P ops (Ext w) o v a ∧ wpH P ops Q tail r (a.put o.dst v) w := by
          by_cases hw : Region.wanted o (yielded ops a.tmps) = true
          · rw [if_pos hw] at h
            rcases h with h | ⟨_, _, _, hx⟩
            · have hst := Stable.op (P := P) (o := o) (a := a) hk (hp hw)
              unfold Oper.wp at h
              cases hrun : (execOp a.eval o).run P w with
              | halt x w' =>
                rw [hrun] at h
                cases x <;> simp only [Oper.upon] at h
                exact h.elim
              | ok nx w' =>
                obtain ⟨rfl, hall⟩ := hst w nx w' hrun
                rw [hrun] at h
                have hval : ∃ v, nx = .value v := by
                  obtain ⟨dst, op, type, pos, after, guard⟩ := o
                  have fromVal : ∀ {s : Sem Value}, (do Pure.pure (Next.value (← s)) : Sem Next).run P w' = .ok nx w' → ∃ v, nx = .value v := fun {s} hs => by
                    rw [Sem.run_bind] at hs
                    cases hs2 : s.run P w' with
                    | halt _ _ => rw [hs2] at hs; cases hs
                    | ok v w2 =>
                      rw [hs2] at hs
                      simp only [Result.andThen, Sem.run_pure, Result.ok.injEq] at hs
                      exact ⟨v, hs.1.symm⟩
                  cases op <;> first | exact absurd hk Bool.false_ne_true | exact fromVal hrun | skip
                  case move x => simp only [execOp, Sem.run_pure, Result.ok.injEq] at hrun; exact ⟨_, hrun.1.symm⟩
                  case assign x => simp only [execOp, Sem.run_pure, Result.ok.injEq] at hrun; exact ⟨_, hrun.1.symm⟩
                  case pick c x y =>
                    simp only [execOp, Sem.run_bind] at hrun
                    cases hs2 : (asBool (a.eval c)).run P w' with
                    | halt _ _ => rw [hs2] at hrun; cases hrun
                    | ok v w2 =>
                      rw [hs2] at hrun
                      simp only [Result.andThen, Sem.run_pure, Result.ok.injEq] at hrun
                      exact ⟨_, hrun.1.symm⟩
                  case nilCheck x =>
                    have hp' := hp hw
                    simp only [plainB] at hp'
                    simp only [execOp] at hrun
                    split at hp'
                    · rename_i ad he
                      rw [he] at hrun
                      simp only [Sem.run_pure, Result.ok.injEq] at hrun
                      exact ⟨_, hrun.1.symm⟩
                    · cases hp'
                  case call c =>
                    obtain ⟨⟨x, t⟩, hc⟩ := Option.isSome_iff_exists.1 (show (lenCall c).isSome = true from hk)
                    have hc' := lenCall_spec hc
                    subst hc'
                    refine fromVal (s := Builtin.len_ #[t] type #[a.eval x]) ?_
                    rw [← hrun]
                    simp only [execOp, resolve, invoke, builtin, Sem.run_bind, Sem.run_pure, Result.andThen_ok, List.map_toArray, List.map_cons, List.map_nil]
                obtain ⟨v, rfl⟩ := hval
                simp only [Oper.upon] at h
                exact ⟨v, .inl ⟨hw, fun w2 hw2 => hall w2 hw2⟩, h.2⟩
            · exact hx.elim
          · rw [if_neg hw] at h
            exact ⟨undef, .inr ⟨by simpa using hw, rfl⟩, h.2⟩
        obtain ⟨v, hy, hX⟩ := key
        exact take_firstF ho hsel hblk hin hdone r.length listed a w inv (fun j oj hj hne hun hno => Region.free_spec ho hB1.2 j oj hj hne hun hno) hr hy (Ext.refl w)
          (wpAnyC_of_XF hsel hblk hseq r _ _ w (inv.set hr) hB2 hX)
      · rw [if_neg hk] at hB1 h
        have hready : Region.ready md ops listed = [i] := by simpa using hB1
        have hr : i ∈ Region.ready md ops listed := by rw [hready]; simp
        refine ⟨Ext.refl w, by rw [hready]; simp, fun j hj => ?_⟩
        rw [hready] at hj
        have hji : j = i := by simpa using hj
        subst hji
        refine ⟨hin, ?_⟩
        have step : ∀ a' w', stopA w (wpH P ops Q tail r) .normal a' w' → wpAnyC P md ops n (Ext w) (fun listed' a' w' => seq listed' = true ∧ wpList P ops Q tail a' w') r.length (listed.setIfInBounds j true) a' w' :=
          fun a' w' hs => wpAnyC_mono (fun w2 h2 => hs.1.trans h2) _ _ _ _ (wpAnyC_of_XF hsel hblk hseq r _ a' w' (inv.set hr) hB2 hs.2)
        unfold wpOp
        simp only [ho]
        simp only [wpList] at h
        by_cases hw : Region.wanted o (yielded ops a.tmps) = true
        · rw [if_pos hw] at h ⊢
          rcases h with h | ⟨_, _, _, hx⟩
          · exact .inl (wp_off stopA_off step h)
          · exact hx.elim
        · rw [if_neg hw] at h ⊢
          exact step _ _ h

/-! ### the tail: one operation after the other, none of which leaves the region -/
def stopN (Q : Exit → Act → World → Prop) : Exit → Act → World → Prop
  | .normal, a, w => True ∧ Q .normal a w
  | _, _, _ => False
def seqZ (md : Region.Mode) (ops : Array Oper) : List Nat → Array Bool → Bool
  | [], listed => decide (Region.ready md ops listed = [])
  | i :: z, listed => decide (Region.ready md ops listed = [i]) && seqZ md ops z (listed.setIfInBounds i true)
theorem seqZ_ge {n : Nat} : ∀ {z : List Nat} {listed : Array Bool}, (∀ t ∈ z, n ≤ t) → seqZ md ops z listed = true → ∀ j ∈ Region.ready md ops listed, n ≤ j
  | [], listed, _, h, j, hj => by simp only [seqZ, decide_eq_true_eq] at h; rw [h] at hj; cases hj
  | i :: z, listed, hz, h, j, hj => by
    simp only [seqZ, Bool.and_eq_true, decide_eq_true_eq] at h
    rw [h.1] at hj
    have : j = i := by simpa using hj
    subst this
    exact hz j (by simp)
def LQ (md : Region.Mode) (ops : Array Oper) (Q : Exit → Act → World → Prop) (listed : Array Bool) (a : Act) (w : World) : Prop := Region.ready md ops listed = [] ∧ Q .normal a w
def pickOps (ops : Array Oper) : List Nat → List Oper
  | [] => []
  | i :: z => match ops[i]? with | none => [] | some o => o :: pickOps ops z
theorem wpAnyC_of_Z {Q : Exit → Act → World → Prop} : ∀ (z : List Nat) (listed : Array Bool) (a : Act) (w : World), seqZ md ops z listed = true → wpList P ops (stopN Q) (pickOps ops z) a w →
    wpAnyC P md ops ops.size (fun _ => True) (LQ md ops Q) z.length listed a w
  | [], listed, a, w, hB, h => ⟨trivial, by simpa [seqZ] using hB, h.2⟩
  | i :: z, listed, a, w, hB, h => by
    simp only [seqZ, Bool.and_eq_true, decide_eq_true_eq] at hB
    have hr : i ∈ Region.ready md ops listed := by rw [hB.1]; simp
    obtain ⟨_, o, ho, _⟩ := mem_ready.1 hr
    refine ⟨trivial, by rw [hB.1]; simp, fun j hj => ?_⟩
    rw [hB.1] at hj
    have hji : j = i := by simpa using hj
    subst hji
    refine ⟨(Array.getElem?_eq_some_iff.1 ho).1, ?_⟩
    simp only [pickOps, ho] at h
    unfold wpOp
    simp only [ho]
    simp only [wpList] at h
    have step : ∀ a' w', wpList P ops (stopN Q) (pickOps ops z) a' w' → wpAnyC P md ops ops.size (fun _ => True) (LQ md ops Q) z.length (listed.setIfInBounds j true) a' w' := fun a' w' h' => wpAnyC_of_Z z _ a' w' hB.2 h'
    by_cases hw : Region.wanted o (yielded ops a.tmps) = true
    · rw [if_pos hw] at h ⊢
      rcases h with h | ⟨_, _, _, hx⟩
      · refine .inl (wp_off (fun e a w hs => ?_) step h)
        cases e <;> first | rfl | exact hs.elim
      · exact hx.elim
    · rw [if_neg hw] at h ⊢
      exact step _ _ h
theorem wpAnyC_glue {n g : Nat} {C : World → Prop} {L L' : Array Bool → Act → World → Prop} (hn : n ≤ ops.size) (hL : ∀ listed a w, L listed a w → wpAnyC P md ops ops.size (fun _ => True) L' g listed a w) :
    ∀ (f : Nat) (listed : Array Bool) (a : Act) (w : World), wpAnyC P md ops n C L f listed a w → wpAnyC P md ops ops.size (fun _ => True) L' (f + g) listed a w
  | 0, listed, a, w, h => by rw [Nat.zero_add]; exact hL _ _ _ h.2
  | f + 1, listed, a, w, h => by
    rw [show f + 1 + g = (f + g) + 1 by omega]
    exact ⟨trivial, h.2.1, fun i hi => ⟨Nat.lt_of_lt_of_le (h.2.2 i hi).1 hn, wpOp_mono (fun a' w' h' => wpAnyC_glue hn hL f _ a' w' h') (h.2.2 i hi).2⟩⟩

/-! ### the floats: addresses of fields -/
def floatKind (P : Program) : Op → Bool
  | .fieldAddr t _ f => fieldPlain P t f
  | .move _ => true
  | .assign _ => true
  | _ => false
theorem float_run {o : Oper} {a : Act} {w w1 : World} {nx : Next} (hk : floatKind P o.op = true) (hrun : (execOp a.eval o).run P w = .ok nx w1) : w1 = w ∧ ∃ v, nx = .value v ∧ ∀ w', (execOp a.eval o).run P w' = .ok nx w' := by
  obtain ⟨dst, op, type, pos, after, guard⟩ := o
  cases op <;> first | exact absurd hk Bool.false_ne_true | skip
  case move x =>
    simp only [execOp, Sem.run_pure, Result.ok.injEq] at hrun
    obtain ⟨rfl, rfl⟩ := hrun
    exact ⟨rfl, _, rfl, fun w' => by simp only [execOp, Sem.run_pure]⟩
  case assign x =>
    simp only [execOp, Sem.run_pure, Result.ok.injEq] at hrun
    obtain ⟨rfl, rfl⟩ := hrun
    exact ⟨rfl, _, rfl, fun w' => by simp only [execOp, Sem.run_pure]⟩
  case fieldAddr t x f =>
    have h : fieldPlain P t f = true := hk
    unfold fieldPlain at h
    split at h
    · rename_i fs hfs
      split at h
      · rename_i fd hfd
        split at h
        · rename_i i hi
          have hsz : i.size ≠ 0 := by simpa using h
          have hr : ∀ w : World, (Instr.fieldAt t (a.eval x) f).run P w = (do
              let a ← Instr.sureAddr (a.eval x)
              Pure.pure (Value.pointer (some (a.add fd.offset))) : Sem Value).run P w := by
            intro w
            unfold Instr.fieldAt
            simp only [Sem.run_bind, run_underlying hfs, Result.andThen, hfd]
            cases hs : (Instr.sureAddr (a.eval x)).run P w with
            | halt _ _ => rfl
            | ok a w1 =>
              simp only [fieldPlace, Sem.run_bind, sizeOf, typeInfo, Go.program, Sem.run]
              simp [Sem.run, Result.andThen, hi, hsz, Sem.run_bind, Go.program]
          have hex : ∀ w : World, (execOp a.eval { dst := dst, op := Op.fieldAddr t x f, type := type, pos := pos, after := after, guard := guard }).run P w = (do Pure.pure (Next.value (← (Instr.fieldAt t (a.eval x) f))) : Sem Next).run P w := fun w => rfl
          rw [hex, Sem.run_bind, hr] at hrun
          cases hx : a.eval x <;> first | (simp [hx, Instr.sureAddr, Sem.run_bind, Sem.run, Result.andThen] at hrun; done) | skip
          rename_i pa
          cases pa with
          | none => simp [hx, Instr.sureAddr, Sem.run_bind, Sem.run, Result.andThen] at hrun
          | some ad =>
            simp only [hx, Instr.sureAddr, Sem.run_bind, Sem.run_pure, Result.andThen, Result.ok.injEq] at hrun
            obtain ⟨rfl, rfl⟩ := hrun
            exact ⟨rfl, _, rfl, fun w' => by rw [hex, Sem.run_bind, hr]; simp only [hx, Instr.sureAddr, Sem.run_bind, Sem.run_pure, Result.andThen]⟩
        · cases h
      · cases h
    · cases h
def wpFl (P : Program) (ops : Array Oper) (K : Act → World → Prop) : List Nat → Act → World → Prop
  | [], a, w => K a w
  | i :: r, a, w => match ops[i]? with
    | none => False
    | some o => wpList P ops (stopQ w (wpFl P ops K r)) [o] a w
theorem wpFl_step {K : Act → World → Prop} {i : Nat} {r : List Nat} {a : Act} {w : World} {o : Oper} (hi : ops[i]? = some o) (h : wpList P ops (stopQ w (wpFl P ops K r)) [o] a w) : wpFl P ops K (i :: r) a w := by
  simp only [wpFl, hi]; exact h
theorem wpFl_nil {K : Act → World → Prop} {a : Act} {w : World} (h : K a w) : wpFl P ops K [] a w := h
def floatSim (P : Program) (md : Region.Mode) (ops : Array Oper) (next : Array Bool → Bool) : List Nat → Array Bool → Bool
  | [], listed => next listed
  | i :: r, listed => (match ops[i]? with
      | none => false
      | some o => floatKind P o.op && (o.guard.isNone && ((Region.ready md ops listed).contains i && Region.free md ops listed i))) && floatSim P md ops next r (listed.setIfInBounds i true)
theorem BlocksF_all : BlocksF md ops ops.size [] := fun listed _ i _ _ t ht => by
  obtain ⟨_, o, ho, _⟩ := mem_ready.1 ht
  exact (Array.getElem?_eq_some_iff.1 ho).1
theorem wpAnyC_of_Fl {Q : Exit → Act → World → Prop} {K : Act → World → Prop} {next : Array Bool → Bool} {g : Nat} (hsel : ∀ (j : Nat) (o : Oper) cs b, ops[j]? = some o → o.op ≠ .select cs b)
    (hK : ∀ listed a w, FInv md ops [] listed → next listed = true → K a w → wpAnyC P md ops ops.size (fun _ => True) (LQ md ops Q) g listed a w) :
    ∀ (r : List Nat) (listed : Array Bool) (a : Act) (w : World), FInv md ops [] listed → floatSim P md ops next r listed = true → wpFl P ops K r a w →
      wpAnyC P md ops ops.size (fun _ => True) (LQ md ops Q) (r.length + g) listed a w
  | [], listed, a, w, inv, hB, h => by rw [List.length_nil, Nat.zero_add]; exact hK _ _ _ inv hB h
  | i :: r, listed, a, w, inv, hB, h => by
    simp only [floatSim, Bool.and_eq_true] at hB
    obtain ⟨hB1, hB2⟩ := hB
    cases ho : ops[i]? with
    | none => rw [ho] at hB1; cases hB1
    | some o =>
      rw [ho] at hB1
      simp only [Bool.and_eq_true] at hB1
      obtain ⟨hk, hgd, hr1, hfr⟩ := hB1
      have hr : i ∈ Region.ready md ops listed := by simpa using hr1
      simp only [wpFl, ho] at h
      have hw : Region.wanted o (yielded ops a.tmps) = true := by
        have : o.guard = none := by simpa using hgd
        simp [Region.wanted, this]
      simp only [wpList, hw, if_true] at h
      rcases h with h | ⟨_, _, _, hx⟩
      · unfold Oper.wp at h
        cases hrun : (execOp a.eval o).run P w with
        | halt x w' =>
          rw [hrun] at h
          cases x <;> simp only [Oper.upon] at h
          exact h.elim
        | ok nx w' =>
          obtain ⟨rfl, v, rfl, hall⟩ := float_run hk hrun
          rw [hrun] at h
          simp only [Oper.upon] at h
          rw [show (i :: r).length + g = (r.length + g) + 1 by simp only [List.length_cons]; omega]
          exact take_firstF (fl := []) ho hsel BlocksF_all (by exact (Array.getElem?_eq_some_iff.1 ho).1) (fun _ _ _ hx j hj => by rw [hx.1] at hj; cases hj) _ listed a w' inv (fun j oj hj hne hun hno => Region.free_spec ho hfr j oj hj hne hun hno) hr (.inl ⟨hw, fun w2 _ => hall w2⟩) trivial
            (wpAnyC_of_Fl hsel hK r _ _ w' (inv.set hr) hB2 h.2)
      · exact hx.elim
theorem FInv.floated {fl : List Nat} {listed : Array Bool} (inv : FInv md ops [] listed) (h : fl.all (fun t => listed.getD t true) = true) : FInv md ops fl listed :=
  ⟨inv.closed, fun t ht => List.all_eq_true.1 h t ht⟩
/-- The law's check: floats fl, the head n in the order r (without floats), the tail in the order z. -/
def regH (P : Program) (md : Region.Mode) (ops : Array Oper) (n : Nat) (fl r z : List Nat) : Bool :=
  Region.noSelect ops && decide (n ≤ ops.size) && decide (fl.length + r.length + z.length = ops.size) && z.all (fun t => decide (n ≤ t)) && blockB md ops n fl &&
    floatSim P md ops (fun listed => fl.all (fun t => listed.getD t true) && headSimF P md ops n (seqZ md ops z) r listed) fl (Array.replicate ops.size false)
theorem wp_region_h {id : Nat} {Q : Exit → Act → World → Prop} {a : Act} {w : World} {l : List Oper} (n : Nat) (fl r z : List Nat) (hm : P.follows .mixedOrders = true) (hB : regH P .any l.toArray n fl r z = true)
    (h : wpFl P l.toArray (wpH P l.toArray (stopN Q) (pickOps l.toArray z) r) fl a w.drew) : (Code.region id l.toArray true).wp P Q a w := by
  simp only [regH, Bool.and_eq_true, decide_eq_true_eq] at hB
  obtain ⟨⟨⟨⟨⟨hsel, hn⟩, hlen⟩, hz⟩, hblk⟩, hsim⟩ := hB
  have hz' : ∀ t ∈ z, n ≤ t := fun t ht => by simpa using List.all_eq_true.1 hz t ht
  have inv0 : FInv .any l.toArray [] (Array.replicate l.toArray.size false) := ⟨fun j oj _ hl => (by rw [getD_replicate_false] at hl; cases hl), fun t ht => absurd ht (by simp)⟩
  have h1 := wpAnyC_of_Fl (P := P) (md := .any) (ops := l.toArray) (Q := Q) (g := r.length + z.length) (K := wpH P l.toArray (stopN Q) (pickOps l.toArray z) r) (Region.noSelect_spec hsel) (fun listed a w inv hnx hK => by
    simp only [Bool.and_eq_true] at hnx
    have h2 := wpAnyC_of_XF (P := P) (Region.noSelect_spec hsel) (blocksF_of hblk) (fun listed hs => seqZ_ge hz' hs) r listed a w (inv.floated hnx.1) hnx.2 hK
    exact wpAnyC_glue hn (fun listed a w hL => wpAnyC_of_Z z listed a w hL.1 hL.2) r.length listed a w h2) fl _ a w.drew inv0 hsim h
  have h3 := wpAny_of_C (P := P) (md := .any) (Q := Q) (g := 0) (n := l.toArray.size) (C := fun _ => True) (L := LQ .any l.toArray Q) (fun listed a w hL => hL) _ _ a w.drew h1
  refine wp_region_any hm ?_
  rw [show l.toArray.size = fl.length + (r.length + z.length) + 0 by omega]
  rw [show fl.length + (r.length + z.length) + 0 = l.toArray.size by omega]
  rw [show fl.length + (r.length + z.length) + 0 = l.toArray.size by omega] at h3
  exact h3
end
end Go.Proofs.Ytinacpjelephoaa
