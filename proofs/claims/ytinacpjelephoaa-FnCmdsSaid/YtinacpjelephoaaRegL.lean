/-
  A law for regions that draw their order and hold a call that writes (a cursor) beside loads that it leaves alone: a head of which all that is only read is taken first, all else in one order, all under a condition C on the worlds; then a tail in one order, which may write. Conditions: those that the law's Bool checks ask.
-/
import Derived.Test.YtinacpjelephoaaRegI
import Derived.Test.YtinacpjelephoaaRow
namespace Go.Proofs.Ytinacpjelephoaa
open Go.RowKit
section
variable {P : Program} {md : Region.Mode} {ops : Array Oper}
def stopC (C : World → Prop) (K : Act → World → Prop) : Exit → Act → World → Prop
  | .normal, a', w' => C w' ∧ K a' w'
  | _, _, _ => False
theorem stopC_off {C : World → Prop} {K : Act → World → Prop} (e : Exit) (a : Act) (w : World) (h : stopC C K e a w) : e = .normal := by
  cases e <;> first | rfl | exact h.elim
/-- what is only read, whatever world it is that meets C -/
def wpCr (P : Program) (ops : Array Oper) (C : World → Prop) (K : Act → World → Prop) : List Nat → Act → World → Prop
  | [], a, w => K a w
  | i :: r, a, w => match ops[i]? with
    | none => False
    | some o => ∃ v, (∀ w', C w' → (execOp a.eval o).run P w' = .ok (.value v) w') ∧ wpCr P ops C K r (a.put o.dst v) w
/-- one operation after the other, under C -/
def wpCz (P : Program) (ops : Array Oper) (C : World → Prop) (K : Act → World → Prop) : List Nat → Act → World → Prop
  | [], a, w => K a w
  | i :: r, a, w => match ops[i]? with
    | none => False
    | some o => wpList P ops (stopC C (wpCz P ops C K r)) [o] a w
theorem wpCr_nil {C : World → Prop} {K : Act → World → Prop} {a : Act} {w : World} (h : K a w) : wpCr P ops C K [] a w := h
theorem wpCz_nil {C : World → Prop} {K : Act → World → Prop} {a : Act} {w : World} (h : K a w) : wpCz P ops C K [] a w := h
theorem wpCr_step {C : World → Prop} {K : Act → World → Prop} {i : Nat} {r : List Nat} {a : Act} {w : World} {o : Oper} (hi : ops[i]? = some o) (v : Value) (hv : ∀ w', C w' → (execOp a.eval o).run P w' = .ok (.value v) w') (h : wpCr P ops C K r (a.put o.dst v) w) : wpCr P ops C K (i :: r) a w := by
  simp only [wpCr, hi]; exact ⟨v, hv, h⟩
/-- .. that hangs on no memory -/
theorem wpCr_bare {C : World → Prop} {K : Act → World → Prop} {i : Nat} {r : List Nat} {a : Act} {w : World} {o : Oper} (hi : ops[i]? = some o) (hk : quietKind P o.op = true) (hp : plainB o a = true) (hg : o.guard = none)
    (h : wpList P ops (stopQ (bare w) (fun a' _ => wpCr P ops C K r a' w)) [o] a (bare w)) : wpCr P ops C K (i :: r) a w := by
  have hw : Region.wanted o (yielded ops a.tmps) = true := by simp [Region.wanted, hg]
  simp only [wpList, hw, if_true] at h
  rcases h with h | ⟨_, _, _, hx⟩
  · unfold Oper.wp at h
    cases hrun : (execOp a.eval o).run P (bare w) with
    | halt x w' =>
      rw [hrun] at h
      cases x <;> simp only [Oper.upon] at h
      exact h.elim
    | ok nx w' =>
      obtain ⟨rfl, v, rfl, hall⟩ := bare_run hk hp hrun
      rw [hrun] at h
      simp only [Oper.upon] at h
      exact wpCr_step hi v (fun w' _ => hall w') h.2
  · exact hx.elim
theorem wpCz_step {C : World → Prop} {K : Act → World → Prop} {i : Nat} {r : List Nat} {a : Act} {w : World} {o : Oper} (hi : ops[i]? = some o) (h : wpList P ops (stopC C (wpCz P ops C K r)) [o] a w) : wpCz P ops C K (i :: r) a w := by
  simp only [wpCz, hi]; exact h
/-- one cell loaded -/
theorem run_load1 {a : Act} {o : Oper} {t : TypeId} {x : Operand} {ad : Addr} {v : Value} {w : World} (ho : o.op = .load t x) (hx : a.eval x = .pointer (some ad)) (hs : ∀ w, (Instr.loadAt t (.pointer (some ad))).run P w = (Sem.load .plain ad Sem.pure : Sem Value).run P w) (hc : w.cell? ad = some v) : (execOp a.eval o).run P w = .ok (.value v) w := by
  unfold execOp
  simp only [ho, hx, Sem.run_bind, hs, Sem.run, hc, Result.andThen, Sem.run_pure]
/-- a row of cells loaded -/
theorem run_loadN {a : Act} {o : Oper} {t : TypeId} {x : Operand} {ad : Addr} {cs : List Value} {w : World} (ho : o.op = .load t x) (hx : a.eval x = .pointer (some ad)) (h : Agg P t cs.length) (hc : ∀ j v, cs[j]? = some v → w.cell? (ad.add j) = some v) : (execOp a.eval o).run P w = .ok (.value (.agg cs.toArray)) w := by
  unfold execOp
  simp only [ho, hx, Sem.run_bind, run_load_row w ad cs h hc, Result.andThen, Sem.run_pure]
def simR (P : Program) (md : Region.Mode) (ops : Array Oper) (n : Nat) (next : Array Bool → Bool) : List Nat → Array Bool → Bool
  | [], listed => next listed
  | i :: r, listed => decide (i < n) && (match ops[i]? with
      | none => false
      | some o => o.guard.isNone && ((Region.ready md ops listed).contains i && Region.free md ops listed i)) && simR P md ops n next r (listed.setIfInBounds i true)
def simZ (md : Region.Mode) (ops : Array Oper) (n : Nat) (next : Array Bool → Bool) : List Nat → Array Bool → Bool
  | [], listed => next listed
  | i :: z, listed => decide (i < n) && decide (Region.ready md ops listed = [i]) && simZ md ops n next z (listed.setIfInBounds i true)
theorem wpAnyC_of_Cz {n : Nat} {C : World → Prop} {K : Act → World → Prop} {next : Array Bool → Bool} {L : Array Bool → Act → World → Prop} (hK : ∀ listed a w, next listed = true → C w → K a w → L listed a w) :
    ∀ (z : List Nat) (listed : Array Bool) (a : Act) (w : World), simZ md ops n next z listed = true → C w → wpCz P ops C K z a w → wpAnyC P md ops n C L z.length listed a w
  | [], listed, a, w, hB, hC, h => ⟨hC, hK _ _ _ hB hC h⟩
  | i :: z, listed, a, w, hB, hC, h => by
    simp only [simZ, Bool.and_eq_true, decide_eq_true_eq] at hB
    obtain ⟨⟨hin, hrd⟩, hB2⟩ := hB
    have hr : i ∈ Region.ready md ops listed := by rw [hrd]; simp
    obtain ⟨_, o, ho, _⟩ := mem_ready.1 hr
    refine ⟨hC, by rw [hrd]; simp, fun j hj => ?_⟩
    rw [hrd] at hj
    have hji : j = i := by simpa using hj
    subst hji
    refine ⟨hin, ?_⟩
    simp only [wpCz, ho] at h
    unfold wpOp
    simp only [ho]
    simp only [wpList] at h
    have step : ∀ a' w', stopC C (wpCz P ops C K z) .normal a' w' → wpAnyC P md ops n C L z.length (listed.setIfInBounds j true) a' w' := fun a' w' h' => wpAnyC_of_Cz hK z _ a' w' hB2 h'.1 h'.2
    by_cases hw : Region.wanted o (yielded ops a.tmps) = true
    · rw [if_pos hw] at h ⊢
      rcases h with h | ⟨_, _, _, hx⟩
      · exact .inl (wp_off stopC_off step h)
      · exact hx.elim
    · rw [if_neg hw] at h ⊢
      exact step _ _ h
theorem wpAnyC_of_Cr {n g : Nat} {C : World → Prop} {K : Act → World → Prop} {next : Array Bool → Bool} {L : Array Bool → Act → World → Prop} (hsel : ∀ (j : Nat) (o : Oper) cs b, ops[j]? = some o → o.op ≠ .select cs b) (hblk : BlocksF md ops n [])
    (hdone : ∀ listed a w, L listed a w → ∀ j ∈ Region.ready md ops listed, n ≤ j)
    (hK : ∀ listed a w, next listed = true → C w → K a w → wpAnyC P md ops n C L g listed a w) :
    ∀ (r : List Nat) (listed : Array Bool) (a : Act) (w : World), FInv md ops [] listed → simR P md ops n next r listed = true → C w → wpCr P ops C K r a w → wpAnyC P md ops n C L (r.length + g) listed a w
  | [], listed, a, w, inv, hB, hC, h => by rw [List.length_nil, Nat.zero_add]; exact hK _ _ _ hB hC h
  | i :: r, listed, a, w, inv, hB, hC, h => by
    simp only [simR, Bool.and_eq_true, decide_eq_true_eq] at hB
    obtain ⟨⟨hin, hB1⟩, hB2⟩ := hB
    cases ho : ops[i]? with
    | none => rw [ho] at hB1; cases hB1
    | some o =>
      rw [ho] at hB1
      simp only [Bool.and_eq_true] at hB1
      obtain ⟨hgd, hr1, hfr⟩ := hB1
      have hr : i ∈ Region.ready md ops listed := by simpa using hr1
      simp only [wpCr, ho] at h
      obtain ⟨v, hv, h⟩ := h
      have hw : Region.wanted o (yielded ops a.tmps) = true := by
        have : o.guard = none := by simpa using hgd
        simp [Region.wanted, this]
      rw [show (i :: r).length + g = (r.length + g) + 1 by simp only [List.length_cons]; omega]
      exact take_firstF (fl := []) ho hsel hblk hin hdone _ listed a w inv (fun j oj hj hne hun hno => Region.free_spec ho hfr j oj hj hne hun hno) hr (.inl ⟨hw, hv⟩) hC
        (wpAnyC_of_Cr hsel hblk hdone hK r _ _ w (inv.set hr) hB2 hC h)
/-- The law's check: n of the head, r what is only read in it, z1 the rest of it, z2 the tail. -/
def regL (P : Program) (md : Region.Mode) (ops : Array Oper) (n : Nat) (r z1 z2 : List Nat) : Bool :=
  Region.noSelect ops && decide (n ≤ ops.size) && decide (r.length + z1.length + z2.length = ops.size) && z2.all (fun t => decide (n ≤ t)) && blockB md ops n [] &&
    simR P md ops n (simZ md ops n (seqZ md ops z2) z1) r (Array.replicate ops.size false)
theorem wp_region_l {id : Nat} {Q : Exit → Act → World → Prop} {a : Act} {w : World} {l : List Oper} (C : World → Prop) (n : Nat) (r z1 z2 : List Nat) (hm : P.follows .mixedOrders = true) (hB : regL P .any l.toArray n r z1 z2 = true) (hC : C w.drew)
    (h : wpCr P l.toArray C (wpCz P l.toArray C (fun a w => wpList P l.toArray (stopN Q) (pickOps l.toArray z2) a w) z1) r a w.drew) : (Code.region id l.toArray true).wp P Q a w := by
  simp only [regL, Bool.and_eq_true, decide_eq_true_eq] at hB
  obtain ⟨⟨⟨⟨⟨hsel, hn⟩, hlen⟩, hz⟩, hblk⟩, hsim⟩ := hB
  have hz' : ∀ t ∈ z2, n ≤ t := fun t ht => by simpa using List.all_eq_true.1 hz t ht
  have inv0 : FInv .any l.toArray [] (Array.replicate l.toArray.size false) := ⟨fun j oj _ hl => (by rw [getD_replicate_false] at hl; cases hl), fun t ht => absurd ht (by simp)⟩
  let L : Array Bool → Act → World → Prop := fun listed a w => seqZ .any l.toArray z2 listed = true ∧ wpList P l.toArray (stopN Q) (pickOps l.toArray z2) a w
  have h1 := wpAnyC_of_Cr (P := P) (md := .any) (ops := l.toArray) (n := n) (g := z1.length) (C := C) (L := L) (next := simZ .any l.toArray n (seqZ .any l.toArray z2) z1) (K := wpCz P l.toArray C (fun a w => wpList P l.toArray (stopN Q) (pickOps l.toArray z2) a w) z1) (Region.noSelect_spec hsel) (blocksF_of hblk)
    (fun listed a w hL => seqZ_ge hz' hL.1)
    (fun listed a w hnx hC hK => wpAnyC_of_Cz (P := P) (md := .any) (n := n) (C := C) (L := L) (next := seqZ .any l.toArray z2) (fun listed a w hs _ hk => ⟨hs, hk⟩) z1 listed a w hnx hC hK) r _ a w.drew inv0 hsim hC h
  have h2 := wpAnyC_glue (P := P) (md := .any) (L' := LQ .any l.toArray Q) (g := z2.length) hn (fun listed a w hL => wpAnyC_of_Z z2 listed a w hL.1 hL.2) (r.length + z1.length) _ a w.drew h1
  have h3 := wpAny_of_C (P := P) (md := .any) (Q := Q) (g := 0) (n := l.toArray.size) (C := fun _ => True) (L := LQ .any l.toArray Q) (fun listed a w hL => hL) _ _ a w.drew h2
  refine wp_region_any hm ?_
  rw [show r.length + z1.length + z2.length + 0 = l.toArray.size by omega] at h3
  exact h3
end
end Go.Proofs.Ytinacpjelephoaa
