/-
  A law for regions that draw their order: operations whose result hangs on no memory are taken first wherever they stand, then a head in one order, then a tail in one order, which may write whatever it will. Conditions: those that the law's Bool checks ask.
-/
import Derived.Test.YtinacpjelephoaaRegH
namespace Go.Proofs.Ytinacpjelephoaa
open Go.RowKit
section
variable {P : Program} {md : Region.Mode} {ops : Array Oper}
theorem quiet_value {o : Oper} {a : Act} {w' : World} {nx : Next} (hk : quietKind P o.op = true) (hp : plainB o a = true) (hrun : (execOp a.eval o).run P w' = .ok nx w') : ∃ v, nx = .value v := by
  obtain ⟨dst, op, type, pos, after, guard⟩ := o
  have fromVal : ∀ {s : Sem Value}, (do Pure.pure (Next.value (← s)) : Sem Next).run P w' = .ok nx w' → ∃ v, nx = .value v := fun {s} hs => by
    rw [Sem.run_bind] at hs
    cases hs2 : s.run P w' with
    | halt _ _ => rw [hs2] at hs; cases hs
    | ok v w2 =>
      rw [hs2] at hs
      simp only [Result.andThen, Sem.run_pure, Result.ok.injEq] at hs
      exact ⟨v, hs.1.symm⟩
  cases op <;> first | exact absurd hk Bool.false_ne_true | exact fromVal hrun | skip
  case move x => simp only [execOp, Sem.run_pure, Result.ok.injEq] at hrun; exact ⟨_, hrun.1.symm⟩
  case assign x => simp only [execOp, Sem.run_pure, Result.ok.injEq] at hrun; exact ⟨_, hrun.1.symm⟩
  case pick c x y =>
    simp only [execOp, Sem.run_bind] at hrun
    cases hs2 : (asBool (a.eval c)).run P w' with
    | halt _ _ => rw [hs2] at hrun; cases hrun
    | ok v w2 =>
      rw [hs2] at hrun
      simp only [Result.andThen, Sem.run_pure, Result.ok.injEq] at hrun
      exact ⟨_, hrun.1.symm⟩
  case nilCheck x =>
    have hp' := hp
    simp only [plainB] at hp'
    simp only [execOp] at hrun
    split at hp'
    · rename_i ad he
      rw [he] at hrun
      simp only [Sem.run_pure, Result.ok.injEq] at hrun
      exact ⟨_, hrun.1.symm⟩
    · cases hp'
  case call c =>
    obtain ⟨⟨x, t⟩, hc⟩ := Option.isSome_iff_exists.1 (show (lenCall c).isSome = true from hk)
    have hc' := lenCall_spec hc
    subst hc'
    refine fromVal (s := Builtin.len_ #[t] type #[a.eval x]) ?_
    rw [← hrun]
    simp only [execOp, resolve, invoke, builtin, Sem.run_bind, Sem.run_pure, Result.andThen_ok, List.map_toArray, List.map_cons, List.map_nil]
/-- a world without memory -/
def bare (w : World) : World := { w with heap := #[] }
theorem bare_ext (w w' : World) : Ext (bare w) w' := fun b hb => absurd hb (by simp [bare])
theorem bare_run {o : Oper} {a : Act} {w w1 : World} {nx : Next} (hk : quietKind P o.op = true) (hp : plainB o a = true) (hrun : (execOp a.eval o).run P (bare w) = .ok nx w1) : w1 = bare w ∧ ∃ v, nx = .value v ∧ ∀ w', (execOp a.eval o).run P w' = .ok nx w' := by
  obtain ⟨rfl, hall⟩ := Stable.op (P := P) (o := o) (a := a) hk hp _ _ _ hrun
  obtain ⟨v, rfl⟩ := quiet_value hk hp hrun
  exact ⟨rfl, v, rfl, fun w' => hall w' (bare_ext w w')⟩
def wpB (P : Program) (ops : Array Oper) (K : Act → World → Prop) : List Nat → Act → World → Prop
  | [], a, w => K a w
  | i :: r, a, w => match ops[i]? with
    | none => False
    | some o => plainB o a = true ∧ wpList P ops (stopQ (bare w) (fun a' _ => wpB P ops K r a' w)) [o] a (bare w)
theorem wpB_step {K : Act → World → Prop} {i : Nat} {r : List Nat} {a : Act} {w : World} {o : Oper} (hi : ops[i]? = some o) (hp : plainB o a = true) (h : wpList P ops (stopQ (bare w) (fun a' _ => wpB P ops K r a' w)) [o] a (bare w)) : wpB P ops K (i :: r) a w := by
  simp only [wpB, hi]; exact ⟨hp, h⟩
theorem wpB_nil {K : Act → World → Prop} {a : Act} {w : World} (h : K a w) : wpB P ops K [] a w := h
def bareSim (P : Program) (md : Region.Mode) (ops : Array Oper) (next : Array Bool → Bool) : List Nat → Array Bool → Bool
  | [], listed => next listed
  | i :: r, listed => (match ops[i]? with
      | none => false
      | some o => quietKind P o.op && (o.guard.isNone && ((Region.ready md ops listed).contains i && Region.free md ops listed i))) && bareSim P md ops next r (listed.setIfInBounds i true)
theorem wpAnyC_of_B {Q : Exit → Act → World → Prop} {K : Act → World → Prop} {next : Array Bool → Bool} {g : Nat} (hsel : ∀ (j : Nat) (o : Oper) cs b, ops[j]? = some o → o.op ≠ .select cs b)
    (hK : ∀ listed a w, FInv md ops [] listed → next listed = true → K a w → wpAnyC P md ops ops.size (fun _ => True) (LQ md ops Q) g listed a w) :
    ∀ (r : List Nat) (listed : Array Bool) (a : Act) (w : World), FInv md ops [] listed → bareSim P md ops next r listed = true → wpB P ops K r a w →
      wpAnyC P md ops ops.size (fun _ => True) (LQ md ops Q) (r.length + g) listed a w
  | [], listed, a, w, inv, hB, h => by rw [List.length_nil, Nat.zero_add]; exact hK _ _ _ inv hB h
  | i :: r, listed, a, w, inv, hB, h => by
    simp only [bareSim, Bool.and_eq_true] at hB
    obtain ⟨hB1, hB2⟩ := hB
    cases ho : ops[i]? with
    | none => rw [ho] at hB1; cases hB1
    | some o =>
      rw [ho] at hB1
      simp only [Bool.and_eq_true] at hB1
      obtain ⟨hk, hgd, hr1, hfr⟩ := hB1
      have hr : i ∈ Region.ready md ops listed := by simpa using hr1
      simp only [wpB, ho] at h
      obtain ⟨hp, h⟩ := h
      have hw : Region.wanted o (yielded ops a.tmps) = true := by
        have : o.guard = none := by simpa using hgd
        simp [Region.wanted, this]
      simp only [wpList, hw, if_true] at h
      rcases h with h | ⟨_, _, _, hx⟩
      · unfold Oper.wp at h
        cases hrun : (execOp a.eval o).run P (bare w) with
        | halt x w' =>
          rw [hrun] at h
          cases x <;> simp only [Oper.upon] at h
          exact h.elim
        | ok nx w' =>
          obtain ⟨rfl, v, rfl, hall⟩ := bare_run hk hp hrun
          rw [hrun] at h
          simp only [Oper.upon] at h
          rw [show (i :: r).length + g = (r.length + g) + 1 by simp only [List.length_cons]; omega]
          exact take_firstF (fl := []) ho hsel BlocksF_all (by exact (Array.getElem?_eq_some_iff.1 ho).1) (fun _ _ _ hx j hj => by rw [hx.1] at hj; cases hj) _ listed a w inv (fun j oj hj hne hun hno => Region.free_spec ho hfr j oj hj hne hun hno) hr (.inl ⟨hw, fun w2 _ => hall w2⟩) trivial
            (wpAnyC_of_B hsel hK r _ _ w (inv.set hr) hB2 h.2)
      · exact hx.elim
/-- The law's check: fl first (they hang on no memory), then z in its order. -/
def regI (P : Program) (md : Region.Mode) (ops : Array Oper) (fl z : List Nat) : Bool :=
  Region.noSelect ops && decide (fl.length + z.length = ops.size) && bareSim P md ops (seqZ md ops z) fl (Array.replicate ops.size false)
theorem wp_region_i {id : Nat} {Q : Exit → Act → World → Prop} {a : Act} {w : World} {l : List Oper} (fl z : List Nat) (hm : P.follows .mixedOrders = true) (hB : regI P .any l.toArray fl z = true)
    (h : wpB P l.toArray (fun a w => wpList P l.toArray (stopN Q) (pickOps l.toArray z) a w) fl a w.drew) : (Code.region id l.toArray true).wp P Q a w := by
  simp only [regI, Bool.and_eq_true, decide_eq_true_eq] at hB
  obtain ⟨⟨hsel, hlen⟩, hsim⟩ := hB
  have inv0 : FInv .any l.toArray [] (Array.replicate l.toArray.size false) := ⟨fun j oj _ hl => (by rw [getD_replicate_false] at hl; cases hl), fun t ht => absurd ht (by simp)⟩
  have h1 := wpAnyC_of_B (P := P) (md := .any) (ops := l.toArray) (Q := Q) (g := z.length) (K := fun a w => wpList P l.toArray (stopN Q) (pickOps l.toArray z) a w) (Region.noSelect_spec hsel) (fun listed a w inv hnx hK => wpAnyC_of_Z z listed a w hnx hK) fl _ a w.drew inv0 hsim h
  have h3 := wpAny_of_C (P := P) (md := .any) (Q := Q) (g := 0) (n := l.toArray.size) (C := fun _ => True) (L := LQ .any l.toArray Q) (fun listed a w hL => hL) _ _ a w.drew h1
  refine wp_region_any hm ?_
  rw [show fl.length + z.length + 0 = l.toArray.size by omega] at h3
  exact h3
end
end Go.Proofs.Ytinacpjelephoaa
