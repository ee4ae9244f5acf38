/-
  The law of XRegF, and an operation that only reads but that the quiet steps do not take (a comparison of structs) walked in its own place (act).
-/
import Derived.Test.YtoffelfcmfpooaaRegion
namespace Go.Proofs.Ytoffelfcmfpooaa
open Go.RowKit
inductive HG where
  | leaf
  | one (i : Nat) (r : HG)
  | two (i k : Nat) (r s : HG)
  | act (i : Nat) (r : HG)
def HG.len : HG → Nat
  | .leaf => 0
  | .one _ r => r.len + 1
  | .two _ _ r _ => r.len + 1
  | .act _ r => r.len + 1
section
variable {P : Program} {md : Region.Mode} {ops : Array Oper}
def wpG (P : Program) (ops : Array Oper) (Q : Exit → Act → World → Prop) (tail : List Oper) : HG → Act → World → Prop
  | .leaf, a, w => wpList P ops Q tail a w
  | .one i r, a, w => match ops[i]? with
    | none => False
    | some o =>
      if quietKind P o.op = true then (Region.wanted o (yielded ops a.tmps) = true → plainB o a = true) ∧ wpList P ops (stopQ w (wpG P ops Q tail r)) [o] a w
      else wpList P ops (stopA w (wpG P ops Q tail r)) [o] a w
  | .two i k r s, a, w => match ops[i]? with
    | none => False
    | some o => match ops[k]? with
      | none => False
      | some o' => wpList P ops (stopA w (wpG P ops Q tail r)) [o] a w ∧ wpList P ops (stopA w (wpG P ops Q tail s)) [o'] a w
  | .act i r, a, w => match ops[i]? with
    | none => False
    | some o => wpList P ops (stopA w (wpG P ops Q tail r)) [o] a w

theorem wpG_quiet {Q : Exit → Act → World → Prop} {tail : List Oper} {i : Nat} {r : HG} {a : Act} {w : World} {o : Oper} (hi : ops[i]? = some o) (hk : quietKind P o.op = true) (hp : plainB o a = true)
    (h : wpList P ops (stopQ w (wpG P ops Q tail r)) [o] a w) : wpG P ops Q tail (.one i r) a w := by
  simp only [wpG, hi, hk, if_true]
  exact ⟨fun _ => hp, h⟩
theorem wpG_actor {Q : Exit → Act → World → Prop} {tail : List Oper} {i : Nat} {r : HG} {a : Act} {w : World} {o : Oper} (hi : ops[i]? = some o) (hk : quietKind P o.op = false)
    (h : wpList P ops (stopA w (wpG P ops Q tail r)) [o] a w) : wpG P ops Q tail (.one i r) a w := by
  simp only [wpG, hi, hk, Bool.false_eq_true, if_false]
  exact h
theorem wpG_two {Q : Exit → Act → World → Prop} {tail : List Oper} {i k : Nat} {r s : HG} {a : Act} {w : World} {o o' : Oper} (hi : ops[i]? = some o) (hk : ops[k]? = some o')
    (h : wpList P ops (stopA w (wpG P ops Q tail r)) [o] a w) (h' : wpList P ops (stopA w (wpG P ops Q tail s)) [o'] a w) : wpG P ops Q tail (.two i k r s) a w := by
  simp only [wpG, hi, hk]
  exact ⟨h, h'⟩
theorem wpG_act {Q : Exit → Act → World → Prop} {tail : List Oper} {i : Nat} {r : HG} {a : Act} {w : World} {o : Oper} (hi : ops[i]? = some o)
    (h : wpList P ops (stopA w (wpG P ops Q tail r)) [o] a w) : wpG P ops Q tail (.act i r) a w := by
  simp only [wpG, hi]
  exact h
theorem wpG_skip {Q : Exit → Act → World → Prop} {tail : List Oper} {i : Nat} {r : HG} {T : Array Value} {D : List Deferred} {w : World} {o : Oper} {d : Tmp} (hi : ops[i]? = some o) (hd : o.dst = some d) (hw : Region.wanted o (yielded ops T) = false)
    (h : wpG P ops Q tail r ⟨T.setIfInBounds d undef, D⟩ w) : wpG P ops Q tail (.one i r) ⟨T, D⟩ w := by
  have h0 : wpG P ops Q tail r ((Act.mk T D).put o.dst undef) w := by rw [hd]; exact h
  simp only [wpG, hi]
  have h1 : ∀ S : Exit → Act → World → Prop, S .normal ((Act.mk T D).put o.dst undef) w → wpList P ops S [o] (Act.mk T D) w := fun S hS => by
    simp only [wpList, hw, Bool.false_eq_true, if_false]
    exact hS
  split
  · exact ⟨fun hx => absurd hx (by simp [hw]), h1 _ ⟨rfl, h0⟩⟩
  · exact h1 _ ⟨Ext.refl _, h0⟩
theorem wpG_nil {Q : Exit → Act → World → Prop} {tail : List Oper} {a : Act} {w : World} (h : wpList P ops Q tail a w) : wpG P ops Q tail .leaf a w := h

def headG (P : Program) (md : Region.Mode) (ops : Array Oper) (n : Nat) : HG → Array Bool → Bool
  | .leaf, listed => Region.seqB md ops (ops.size - n) n listed
  | .one i r, listed => decide (i < n) && (match ops[i]? with
      | none => false
      | some o => if quietKind P o.op = true then (Region.ready md ops listed).contains i && Region.free md ops listed i else decide (Region.ready md ops listed = [i])) &&
    headG P md ops n r (listed.setIfInBounds i true)
  | .two i k r s, listed => decide (i < n) && decide (k < n) && decide (r.len = s.len) && decide (Region.ready md ops listed = [i, k]) && headG P md ops n r (listed.setIfInBounds i true) && headG P md ops n s (listed.setIfInBounds k true)
  | .act i r, listed => decide (i < n) && decide (Region.ready md ops listed = [i]) && headG P md ops n r (listed.setIfInBounds i true)
def headBG (P : Program) (md : Region.Mode) (ops : Array Oper) (n : Nat) (r : HG) : Bool :=
  Region.noSelect ops && (decide (n = ops.size) || (decide (n < ops.size) && Region.sinkB md ops n && Region.chainB md ops n)) && decide (r.len = n) && headG P md ops n r (Array.replicate ops.size false)

theorem wpOp_of_stopG {n : Nat} {Q : Exit → Act → World → Prop} {tail : List Oper} {r : HG} {j : Nat} {o : Oper} {listed : Array Bool} {a : Act} {w : World} {f : Nat} (ho : ops[j]? = some o)
    (step : ∀ a' w', stopA w (wpG P ops Q tail r) .normal a' w' → wpAnyC P md ops n (Ext w) (fun listed' a' w' => Region.seqB md ops (ops.size - n) n listed' = true ∧ wpList P ops Q tail a' w') f (listed.setIfInBounds j true) a' w')
    (h : wpList P ops (stopA w (wpG P ops Q tail r)) [o] a w) :
    wpOp P ops noQ j (wpAnyC P md ops n (Ext w) (fun listed' a' w' => Region.seqB md ops (ops.size - n) n listed' = true ∧ wpList P ops Q tail a' w') f (listed.setIfInBounds j true)) a w := by
  unfold wpOp
  simp only [ho]
  simp only [wpList] at h
  by_cases hw : Region.wanted o (yielded ops a.tmps) = true
  · rw [if_pos hw] at h ⊢
    rcases h with h | ⟨_, _, _, hx⟩
    · exact .inl (wp_off stopA_off step h)
    · exact hx.elim
  · rw [if_neg hw] at h ⊢
    exact step _ _ h

theorem wpAnyC_of_G {n : Nat} {Q : Exit → Act → World → Prop} {tail : List Oper} (hsel : ∀ (j : Nat) (o : Oper) cs b, ops[j]? = some o → o.op ≠ .select cs b) (hblk : Blocks md ops n) :
    ∀ (r : HG) (listed : Array Bool) (a : Act) (w : World), HeadInv md ops n listed → headG P md ops n r listed = true → wpG P ops Q tail r a w →
      wpAnyC P md ops n (Ext w) (fun listed' a' w' => Region.seqB md ops (ops.size - n) n listed' = true ∧ wpList P ops Q tail a' w') r.len listed a w
  | .leaf, _, _, w, _, hB, h => ⟨Ext.refl w, hB, h⟩
  | .two i k r s, listed, a, w, inv, hB, h => by
    simp only [headG, Bool.and_eq_true, decide_eq_true_eq] at hB
    obtain ⟨⟨⟨⟨⟨hin, hkn⟩, hlen⟩, hready⟩, hB1⟩, hB2⟩ := hB
    cases ho : ops[i]? with
    | none => simp only [wpG, ho] at h
    | some o =>
      cases ho' : ops[k]? with
      | none => simp only [wpG, ho, ho'] at h
      | some o' =>
        simp only [wpG, ho, ho'] at h
        have hri : i ∈ Region.ready md ops listed := by rw [hready]; simp
        have hrk : k ∈ Region.ready md ops listed := by rw [hready]; simp
        refine ⟨Ext.refl w, by rw [hready]; simp, fun j hj => ?_⟩
        rw [hready] at hj
        simp only [List.mem_cons, List.not_mem_nil, or_false] at hj
        rcases hj with rfl | rfl
        · exact ⟨hin, wpOp_of_stopG ho (fun a' w' hs => wpAnyC_mono (fun w2 h2 => hs.1.trans h2) _ _ _ _ (wpAnyC_of_G hsel hblk r _ a' w' (inv.set hri hin) hB1 hs.2)) h.1⟩
        · refine ⟨hkn, wpOp_of_stopG ho' (fun a' w' hs => ?_) h.2⟩
          have := wpAnyC_mono (fun w2 h2 => hs.1.trans h2) _ _ _ _ (wpAnyC_of_G hsel hblk s _ a' w' (inv.set hrk hkn) hB2 hs.2)
          rw [← hlen] at this
          exact this
  | .one i r, listed, a, w, inv, hB, h => by
    simp only [headG, Bool.and_eq_true, decide_eq_true_eq] at hB
    obtain ⟨⟨hin, hB1⟩, hB2⟩ := hB
    cases ho : ops[i]? with
    | none => rw [ho] at hB1; cases hB1
    | some o =>
      rw [ho] at hB1
      simp only [wpG, ho] at h
      simp only at hB1
      have hdone : ∀ (listed : Array Bool) (a : Act) (w : World), (Region.seqB md ops (ops.size - n) n listed = true ∧ wpList P ops Q tail a w) → ∀ j ∈ Region.ready md ops listed, n ≤ j := fun _ _ _ hx => seqB_ready hx.1
      by_cases hk : quietKind P o.op = true
      · rw [if_pos hk] at hB1 h
        simp only [Bool.and_eq_true] at hB1
        have hr : i ∈ Region.ready md ops listed := by simpa using hB1.1
        obtain ⟨hp, h⟩ := h
        simp only [wpList] at h
        have key : ∃ v, YieldsE P ops (Ext w) o v a ∧ wpG P ops Q tail r (a.put o.dst v) w := by
          by_cases hw : Region.wanted o (yielded ops a.tmps) = true
          · rw [if_pos hw] at h
            rcases h with h | ⟨_, _, _, hx⟩
            · have hst := Stable.op (P := P) (o := o) (a := a) hk (hp hw)
              unfold Oper.wp at h
              cases hrun : (execOp a.eval o).run P w with
              | halt x w' =>
                rw [hrun] at h
                cases x <;> simp only [Oper.upon] at h
                exact h.elim
              | ok nx w' =>
                obtain ⟨rfl, hall⟩ := hst w nx w' hrun
                rw [hrun] at h
                have hval : ∃ v, nx = .value v := by
                  obtain ⟨dst, op, type, pos, after, guard⟩ := o
                  have fromVal : ∀ {s : Sem Value}, (do Pure.pure (Next.value (← s)) : Sem Next).run P w' = .ok nx w' → ∃ v, nx = .value v := fun {s} hs => by
                    rw [Sem.run_bind] at hs
                    cases hs2 : s.run P w' with
                    | halt _ _ => rw [hs2] at hs; cases hs
                    | ok v w2 =>
                      rw [hs2] at hs
                      simp only [Result.andThen, Sem.run_pure, Result.ok.injEq] at hs
                      exact ⟨v, hs.1.symm⟩
                  cases op <;> first | exact absurd hk Bool.false_ne_true | exact fromVal hrun | skip
                  case move x => simp only [execOp, Sem.run_pure, Result.ok.injEq] at hrun; exact ⟨_, hrun.1.symm⟩
                  case assign x => simp only [execOp, Sem.run_pure, Result.ok.injEq] at hrun; exact ⟨_, hrun.1.symm⟩
                  case pick c x y =>
                    simp only [execOp, Sem.run_bind] at hrun
                    cases hs2 : (asBool (a.eval c)).run P w' with
                    | halt _ _ => rw [hs2] at hrun; cases hrun
                    | ok v w2 =>
                      rw [hs2] at hrun
                      simp only [Result.andThen, Sem.run_pure, Result.ok.injEq] at hrun
                      exact ⟨_, hrun.1.symm⟩
                  case nilCheck x =>
                    have hp' := hp hw
                    simp only [plainB] at hp'
                    simp only [execOp] at hrun
                    split at hp'
                    · rename_i ad he
                      rw [he] at hrun
                      simp only [Sem.run_pure, Result.ok.injEq] at hrun
                      exact ⟨_, hrun.1.symm⟩
                    · cases hp'
                  case call c =>
                    obtain ⟨⟨x, t⟩, hc⟩ := Option.isSome_iff_exists.1 (show (lenCall c).isSome = true from hk)
                    have hc' := lenCall_spec hc
                    subst hc'
                    refine fromVal (s := Builtin.len_ #[t] type #[a.eval x]) ?_
                    rw [← hrun]
                    simp only [execOp, resolve, invoke, builtin, Sem.run_bind, Sem.run_pure, Result.andThen_ok, List.map_toArray, List.map_cons, List.map_nil]
                obtain ⟨v, rfl⟩ := hval
                simp only [Oper.upon] at h
                exact ⟨v, .inl ⟨hw, fun w2 hw2 => hall w2 hw2⟩, h.2⟩
            · exact hx.elim
          · rw [if_neg hw] at h
            exact ⟨undef, .inr ⟨by simpa using hw, rfl⟩, h.2⟩
        obtain ⟨v, hy, hX⟩ := key
        exact take_first ho hsel hblk hin hdone r.len listed a w inv (fun j oj hj hne hun hno => Region.free_spec ho hB1.2 j oj hj hne hun hno) hr hy (Ext.refl w)
          (wpAnyC_of_G hsel hblk r _ _ w (inv.set hr hin) hB2 hX)
      · rw [if_neg hk] at hB1 h
        have hready : Region.ready md ops listed = [i] := by simpa using hB1
        have hr : i ∈ Region.ready md ops listed := by rw [hready]; simp
        refine ⟨Ext.refl w, by rw [hready]; simp, fun j hj => ?_⟩
        rw [hready] at hj
        have hji : j = i := by simpa using hj
        subst hji
        exact ⟨hin, wpOp_of_stopG ho (fun a' w' hs => wpAnyC_mono (fun w2 h2 => hs.1.trans h2) _ _ _ _ (wpAnyC_of_G hsel hblk r _ a' w' (inv.set hr hin) hB2 hs.2)) h⟩
  | .act i r, listed, a, w, inv, hB, h => by
    simp only [headG, Bool.and_eq_true, decide_eq_true_eq] at hB
    obtain ⟨⟨hin, hready⟩, hB2⟩ := hB
    cases ho : ops[i]? with
    | none => simp only [wpG, ho] at h
    | some o =>
      simp only [wpG, ho] at h
      have hr : i ∈ Region.ready md ops listed := by rw [hready]; simp
      refine ⟨Ext.refl w, by rw [hready]; simp, fun j hj => ?_⟩
      rw [hready] at hj
      have hji : j = i := by simpa using hj
      subst hji
      exact ⟨hin, wpOp_of_stopG ho (fun a' w' hs => wpAnyC_mono (fun w2 h2 => hs.1.trans h2) _ _ _ _ (wpAnyC_of_G hsel hblk r _ a' w' (inv.set hr hin) hB2 hs.2)) h⟩

theorem wp_region_g {id : Nat} {Q : Exit → Act → World → Prop} {a : Act} {w : World} {l : List Oper} (n : Nat) (r : HG) (hm : P.follows .mixedOrders = true) (hB : headBG P .any l.toArray n r = true)
    (h : wpG P l.toArray Q (l.drop n) r a w.drew) : (Code.region id l.toArray true).wp P Q a w := by
  simp only [headBG, Bool.and_eq_true, Bool.or_eq_true, decide_eq_true_eq] at hB
  obtain ⟨⟨⟨hsel, hcut⟩, hlen⟩, hsim⟩ := hB
  have hnl : n ≤ l.length := by
    rcases hcut with h1 | h1
    · simp at h1; omega
    · have := h1.1.1; simp at this; omega
  have hblk : Blocks .any l.toArray n := by
    rcases hcut with h1 | h1
    · intro listed _ i _ _ t ht
      obtain ⟨_, o, ho, _⟩ := mem_ready.1 ht
      have := (Array.getElem?_eq_some_iff.1 ho).1
      omega
    · intro listed inv i hin hun t ht
      rcases Nat.lt_or_ge t n with h2 | h2
      · exact h2
      · exact absurd ht (tail_waits h1.1.2 h1.2 h1.1.1 inv _ i rfl hin hun t h2)
  have inv0 : HeadInv .any l.toArray n (Array.replicate l.toArray.size false) :=
    ⟨by simp, fun j oj _ hl => (by rw [getD_replicate_false] at hl; cases hl), fun t _ ht => getD_in (by simpa using ht) (getD_replicate_false _ _)⟩
  have h1 := wpAnyC_of_G (P := P) (Region.noSelect_spec hsel) hblk r _ a w.drew inv0 hsim h
  have hdl : (l.drop n).length = l.toArray.size - n := by simp
  have h2 := wpAny_of_C (Q := Q) (g := l.toArray.size - n) (fun listed' a' w' hx => by
    rw [← hdl]
    refine wpAny_of_seq (l.drop n) n listed' a' w' (fun j => by simp [List.getElem?_drop]) ?_ hx.2
    rw [hdl]
    exact hx.1) r.len _ a w.drew h1
  refine wp_region_any hm ?_
  rw [show l.toArray.size = r.len + (l.toArray.size - n) by simp; omega]
  rw [show r.len + (l.toArray.size - n) = l.toArray.size by simp; omega]
  rw [show r.len + (l.toArray.size - n) = l.toArray.size by simp; omega] at h2
  exact h2
theorem wp_joinG {c : Code} {Q : Exit → Act → World → Prop} {a : Act} {w : World} (J : Act → Act → World → Prop) (h1 : c.wp P (fun e a' w' => e = .normal ∧ J a a' w') a w) (h2 : ∀ a' w', J a a' w' → Q .normal a' w') : c.wp P Q a w :=
  Code.wp_mono (Q := fun e a' w' => e = .normal ∧ J a a' w') (by rintro e a' w' ⟨rfl, h⟩; exact h2 a' w' h) h1
end
end Go.Proofs.Ytoffelfcmfpooaa
