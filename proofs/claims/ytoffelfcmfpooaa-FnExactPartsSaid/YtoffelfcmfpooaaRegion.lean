/-
  A law for regions that draw their order: their head (reads, plain operations, calls that only make new memory) is walked in ONE order, the tail in the text's order. Conditions: those that the law's Bool checks ask (each closes by the kernel).
-/
import Derived.Test.YtoffelfcmfpooaaBase
import Derived.StillTail
import Derived.StillTailTactics
namespace Go.Proofs.Ytoffelfcmfpooaa
open Go.RowKit

/-- w' holds all that w holds. -/
def Ext (w w' : World) : Prop := ∀ b, b < w.heap.size → w'.heap[b]? = w.heap[b]?
theorem Ext.refl (w : World) : Ext w w := fun _ _ => rfl
theorem Ext.size {w w' : World} (h : Ext w w') : w.heap.size ≤ w'.heap.size := by
  rcases Nat.eq_zero_or_pos w.heap.size with h0 | h0
  · omega
  · have := h (w.heap.size - 1) (by omega)
    rw [Array.getElem?_eq_getElem (show w.heap.size - 1 < w.heap.size by omega)] at this
    have := (Array.getElem?_eq_some_iff.1 this).1
    omega
theorem Ext.trans {a b c : World} (h : Ext a b) (k : Ext b c) : Ext a c := fun i hi => (k i (Nat.lt_of_lt_of_le hi h.size)).trans (h i hi)
theorem Ext.of_below {w w' : World} (h : Below w.heap.size w w') : Ext w w' := h.block
theorem Ext.of_grown {w w' : World} (h : w.grownBy w' none) : Ext w w' := fun b hb => h.block b hb (by simp)
theorem Ext.drew (w : World) : Ext w w.drew := fun _ _ => rfl
theorem Ext.alloc {w w' : World} (h : Ext w w') (o : Obj) : Ext w (w'.alloc o) := fun b hb => (Below.heap_alloc _ _ _ (Nat.lt_of_lt_of_le hb h.size)).trans (h b hb)

/-! ### what reads and makes nothing gives the same in every later world -/
def Stable {α : Type} (P : Program) (e : Sem α) : Prop := ∀ w v w1, e.run P w = .ok v w1 → w1 = w ∧ ∀ w', Ext w w' → e.run P w' = .ok v w'
section
variable {P : Program} {α β : Type}
theorem Stable.pure (a : α) : Stable P (Pure.pure a : Sem α) := fun w v w1 h => by
  simp only [Sem.run_pure, Result.ok.injEq] at h
  obtain ⟨rfl, rfl⟩ := h
  exact ⟨rfl, fun w' _ => by simp⟩
theorem Stable.halt (h : Halt) : Stable P (Sem.halt h : Sem α) := fun w v w1 hh => by simp [Sem.run] at hh
theorem Stable.bind {e : Sem α} {f : α → Sem β} (he : Stable P e) (hf : ∀ a, Stable P (f a)) : Stable P (e >>= f) := fun w v w1 h => by
  rw [Sem.run_bind] at h
  cases hr : e.run P w with
  | halt x w2 => rw [hr] at h; simp [Result.andThen] at h
  | ok a w2 =>
    rw [hr] at h
    simp only [Result.andThen] at h
    obtain ⟨rfl, h2⟩ := he w a w2 hr
    obtain ⟨rfl, h4⟩ := hf a _ v w1 h
    refine ⟨rfl, fun w' hw' => ?_⟩
    rw [Sem.run_bind, h2 w' hw']
    simp only [Result.andThen]
    exact h4 w' hw'
theorem Stable.program : Stable P (Go.program : Sem Program) := fun w v w1 h => by
  have h' : Result.ok P w = Result.ok v w1 := h
  simp only [Result.ok.injEq] at h'
  obtain ⟨rfl, rfl⟩ := h'
  exact ⟨rfl, fun w' _ => rfl⟩
theorem Stable.info (t : TypeId) : Stable P (typeInfo t) := by
  unfold typeInfo
  refine Stable.bind Stable.program fun p => ?_
  split
  · exact Stable.pure _
  · exact Stable.halt _
theorem Stable.under (t : TypeId) : Stable P (underlying t) := by
  unfold underlying
  refine Stable.bind Stable.program fun p => ?_
  split
  · exact Stable.pure _
  · exact Stable.halt _
theorem Stable.size (t : TypeId) : Stable P (sizeOf t) := by
  unfold sizeOf
  exact Stable.bind (Stable.info t) fun _ => Stable.pure _
theorem Stable.isAgg (t : TypeId) : Stable P (isAgg t) := by
  unfold Go.isAgg
  refine Stable.bind (Stable.under t) fun d => ?_
  split <;> exact Stable.pure _
theorem seen_none (P : Program) (w : World) (at_ : Addr) (u : TypeId) (k : Addr) (b : Bool) (h : w.heap[at_.block]? = none) : ∃ e, w.viewLoad P at_ u k b = .error e := by
  unfold World.viewLoad World.seen
  by_cases h1 : (k.spot.isSome || at_.spot.isSome) = true
  · simp [h1, MonadExcept.throw, throwThe, MonadExceptOf.throw, bind, Except.bind]
  · simp only [h1]
    cases h2 : plainCell P P.depth u k.off with
    | none => simp [MonadExcept.throw, throwThe, MonadExceptOf.throw, bind, Except.bind, pure, Except.pure]
    | some like =>
      cases h3 : like.bytes?.map (·.length) with
      | none => simp [h3, MonadExcept.throw, throwThe, MonadExceptOf.throw, bind, Except.bind, pure, Except.pure]
      | some size =>
        cases h4 : byteOfCell P P.depth u k.off with
        | none => simp [h3, MonadExcept.throw, throwThe, MonadExceptOf.throw, bind, Except.bind, pure, Except.pure]
        | some be => simp [h, h3, MonadExcept.throw, throwThe, MonadExceptOf.throw, bind, Except.bind, pure, Except.pure]

theorem Stable.load (m : Mode) (a : Addr) : Stable P (Sem.load m a Sem.pure : Sem Value) := fun w v w1 h => by
  simp only [Sem.run] at h ⊢
  cases hc : w.cell? a with
  | some u =>
    rw [hc] at h
    simp only [Result.ok.injEq] at h
    obtain ⟨rfl, rfl⟩ := h
    refine ⟨rfl, fun w' hw' => ?_⟩
    have : w'.cell? a = some u := (World.cell?_of_block (hw' a.block (World.block_lt_of_cell? w a hc))).trans hc
    rw [this]
  | none =>
    rw [hc] at h
    simp only [World.farLoad] at h ⊢
    cases hb : w.heap[a.block]? with
    | none => rw [hb] at h; simp at h
    | some o =>
      have hlt : a.block < w.heap.size := (Array.getElem?_eq_some_iff.1 hb).1
      cases o with
      | view at_ u =>
        rw [hb] at h
        simp only at h
        cases hv : w.viewLoad P at_ u a (m == .atomic) with
        | error why => rw [hv] at h; simp at h
        | ok r =>
          obtain ⟨r1, r2⟩ := r
          rw [hv] at h
          simp only [Result.ok.injEq] at h
          obtain ⟨rfl, rfl⟩ := h
          refine ⟨rfl, fun w' hw' => ?_⟩
          have e1 : w'.heap[a.block]? = some (.view at_ u) := (hw' _ hlt).trans hb
          have e2 : w'.cell? a = none := by simp [World.cell?, e1]
          have e3 : w'.viewLoad P at_ u a (m == .atomic) = w.viewLoad P at_ u a (m == .atomic) := by
            have hat : at_.block < w.heap.size := by
              rcases Nat.lt_or_ge at_.block w.heap.size with h' | h'
              · exact h'
              · exfalso
                obtain ⟨e, he⟩ := seen_none P w at_ u a (m == .atomic) (Array.getElem?_eq_none h')
                rw [he] at hv
                cases hv
            have hh := hw' at_.block hat
            simp only [World.viewLoad, World.seen, hh]
          rw [e2]
          simp only [e1, e3, hv]
      | _ => (rw [hb] at h; cases h)
theorem Stable.cells (a : Addr) : ∀ (n i : Nat) (acc : Array Value), Stable P (loadCellsFrom a i n acc)
  | 0, _, _ => Stable.pure _
  | n + 1, i, acc => Stable.bind (Stable.load .plain (a.add i)) fun v => Stable.cells a n (i + 1) (acc.push v)
theorem Stable.loadVar (t : TypeId) (a : Addr) : Stable P (loadVar t a) := by
  unfold Go.loadVar
  refine Stable.bind (Stable.isAgg t) fun b => ?_
  split
  · exact Stable.bind (Stable.size t) fun n => Stable.bind (Stable.cells a n 0 #[]) fun _ => Stable.pure _
  · exact Stable.load _ _
theorem Stable.sure (v : Value) : Stable P (Instr.sureAddr v) := by
  unfold Instr.sureAddr
  split
  · exact Stable.pure _
  · exact Stable.halt _
theorem Stable.loadAt (t : TypeId) (v : Value) : Stable P (Instr.loadAt t v) := by
  unfold Instr.loadAt
  exact Stable.bind (Stable.sure v) fun a => Stable.loadVar t a
/-- What never yields is stable. -/
theorem Stable.never {e : Sem α} (h : ∀ w v w1, e.run P w ≠ .ok v w1) : Stable P e := fun w v w1 hh => absurd hh (h w v w1)
theorem Stable.panicErr (m : String) : Stable P (runtimePanic (.error m) : Sem α) := by
  unfold runtimePanic
  exact Stable.bind Stable.program fun p => Stable.halt _
theorem Stable.panicNil : Stable P (runtimePanic .nilDeref : Sem α) := by
  unfold runtimePanic
  exact Stable.bind Stable.program fun p => Stable.halt _
theorem Stable.bounds (k : IntKind) (x y : Int) (c : BoundsCode) : Stable P (boundsPanic k x y c : Sem α) := by
  refine Stable.never fun w v w1 h => ?_
  obtain ⟨s, w', hr⟩ := run_boundsPanic (α := α) (P := P) (w := w) k x y c
  rw [hr] at h
  cases h
theorem Stable.asInt (v : Value) : Stable P (asIntOf v) := by
  unfold asIntOf
  split
  · exact Stable.pure _
  · exact Stable.halt _
  · exact Stable.halt _
theorem Stable.asBool (v : Value) : Stable P (asBool v) := by
  unfold Go.asBool
  split
  · exact Stable.pure _
  · exact Stable.halt _
theorem Stable.asAgg (v : Value) : Stable P (asAgg v) := by
  unfold Go.asAgg
  split
  · exact Stable.pure _
  · exact Stable.halt _
theorem Stable.part (t : TypeId) (cs : Array Value) (off : Nat) : Stable P (part t cs off) := by
  unfold Go.part
  refine Stable.bind (Stable.isAgg t) fun b => ?_
  split
  · exact Stable.bind (Stable.size t) fun _ => Stable.pure _
  · split
    · exact Stable.pure _
    · exact Stable.halt _
theorem Stable.opShift (op : BinOp) (k : IntKind) (x : Int) (yk : IntKind) (y : Int) : Stable P (Op.shift op k x yk y) := by
  unfold Op.shift
  split
  · exact Stable.panicErr _
  · dsimp only
    split <;> first | exact Stable.pure _ | exact Stable.halt _
theorem Stable.opArith (op : BinOp) (k : IntKind) (x y : Int) : Stable P (Op.intArith op k x y) := by
  unfold Op.intArith
  split <;> first | exact Stable.pure _ | exact Stable.halt _
theorem Stable.opDiv (op : BinOp) (k : IntKind) (x y : Int) : Stable P (Op.intDiv op k x y) := by
  unfold Op.intDiv
  split
  · exact Stable.panicErr _
  · split <;> first | exact Stable.pure _ | exact Stable.halt _
theorem Stable.opBits (op : BinOp) (k : IntKind) (x y : Int) : Stable P (Op.intBits op k x y) := by
  unfold Op.intBits
  dsimp only
  split <;> first | exact Stable.pure _ | exact Stable.halt _
theorem Stable.opCmp (op : BinOp) (x y : Int) : Stable P (Op.intCmp op x y) := by
  unfold Op.intCmp
  split <;> first | exact Stable.pure _ | exact Stable.halt _
theorem Stable.opString (op : BinOp) (x y : ByteArray) : Stable P (Op.stringOp op x y) := by
  unfold Op.stringOp
  dsimp only
  split
  · split <;> first | exact Stable.pure _ | exact Stable.halt _
  all_goals first | exact Stable.pure _ | exact Stable.halt _
theorem Stable.opInts (op : BinOp) (t : TypeId) (k k' : IntKind) (x y : Int) : Stable P (binOp op t (.int k x) (.int k' y)) := by
  cases op
  all_goals first
    | (show Stable P (Op.shift .shl k x k' y); exact Stable.opShift _ _ _ _ _)
    | (show Stable P (Op.shift .shr k x k' y); exact Stable.opShift _ _ _ _ _)
    | (show Stable P (ite _ _ _)
       split
       · exact Stable.halt _
       · first | exact Stable.opArith _ _ _ _ | exact Stable.opDiv _ _ _ _ | exact Stable.opBits _ _ _ _ | exact Stable.opCmp _ _ _)
theorem Stable.opStrings (op : BinOp) (t : TypeId) (x y : ByteArray) : Stable P (binOp op t (.string x) (.string y)) := by
  have : binOp op t (.string x) (.string y) = Op.stringOp op x y := by cases op <;> rfl
  rw [this]
  exact Stable.opString _ _ _
theorem Stable.equalBool (a b : Bool) : ∀ (d : Nat) (t : TypeId), Stable P (Op.equalIn d t (.bool a) (.bool b))
  | 0, _ => Stable.halt _
  | d + 1, t => by
    unfold Op.equalIn
    refine Stable.bind (Stable.under _) fun u => ?_
    split <;> first | exact Stable.pure _ | exact Stable.halt _ | (exfalso; simp_all; done)
theorem Stable.opBools (op : BinOp) (t : TypeId) (x y : Bool) : Stable P (binOp op t (.bool x) (.bool y)) := by
  cases op
  all_goals first
    | exact Stable.halt _
    | exact Stable.bind (Stable.equalBool _ _ _ _) fun _ => Stable.pure _
def plain2 : Value → Value → Bool
  | .int _ _, .int _ _ | .string _, .string _ | .bool _, .bool _ => true
  | _, _ => false
theorem Stable.opPlain (op : BinOp) (t : TypeId) (a b : Value) (h : plain2 a b = true) : Stable P (binOp op t a b) := by
  unfold plain2 at h
  split at h
  · exact Stable.opInts _ _ _ _ _ _
  · exact Stable.opStrings _ _ _ _
  · exact Stable.opBools _ _ _ _
  · cases h
theorem Stable.guardPlain (op : BinOp) (t : TypeId) (x y : Operand) (a b : Value) (h : plain2 a b = true) : Stable P (eqGuard op t x y a b) := by
  unfold plain2 at h
  split at h
  · cases op <;> exact Stable.pure _
  · cases op <;> exact Stable.pure _
  · cases op <;> exact Stable.pure _
  · cases h
theorem Stable.asAddr (v : Value) : Stable P (asAddr v) := by
  unfold Go.asAddr
  split
  · exact Stable.pure _
  all_goals first | exact Stable.panicNil | exact Stable.halt _
theorem Stable.sliceBound (v : Value) (y : Nat) (c : BoundsCode) : Stable P (Instr.sliceBound v y c) := by
  unfold Instr.sliceBound
  refine Stable.bind (Stable.asInt v) fun ki => ?_
  dsimp only
  split
  · exact Stable.pure _
  · exact Stable.bounds _ _ _ _
theorem Stable.sliceBounds (b : Bool) (len cap : Nat) (lo hi mx : Option Value) : Stable P (Instr.sliceBounds b len cap lo hi mx) := by
  unfold Instr.sliceBounds
  repeat' first
    | exact Stable.pure _
    | exact Stable.halt _
    | exact Stable.bounds _ _ _ _
    | exact Stable.under _
    | exact Stable.size _
    | exact Stable.asInt _
    | exact Stable.sure _
    | exact Stable.part _ _ _
    | exact Stable.sliceBound _ _ _
    | (refine Stable.bind ?_ fun _ => ?_)
    | split
    | (dsimp only; done)
    | dsimp only
theorem Stable.indexAt (t : TypeId) (x ix : Value) : Stable P (Instr.indexAt t x ix) := by
  unfold Instr.indexAt
  repeat' first
    | exact Stable.pure _
    | exact Stable.halt _
    | exact Stable.bounds _ _ _ _
    | exact Stable.under _
    | exact Stable.size _
    | exact Stable.asInt _
    | exact Stable.sure _
    | exact Stable.part _ _ _
    | exact Stable.sliceBound _ _ _
    | exact Stable.sliceBounds _ _ _ _ _ _
    | (refine Stable.bind ?_ fun _ => ?_)
    | split
    | (dsimp only; done)
    | dsimp only
theorem Stable.index (t : TypeId) (x ix : Value) : Stable P (Instr.index t x ix) := by
  unfold Instr.index
  repeat' first
    | exact Stable.pure _
    | exact Stable.halt _
    | exact Stable.bounds _ _ _ _
    | exact Stable.under _
    | exact Stable.size _
    | exact Stable.asInt _
    | exact Stable.sure _
    | exact Stable.part _ _ _
    | exact Stable.sliceBound _ _ _
    | exact Stable.sliceBounds _ _ _ _ _ _
    | (refine Stable.bind ?_ fun _ => ?_)
    | split
    | (dsimp only; done)
    | dsimp only
theorem Stable.slice (t : TypeId) (x : Value) (lo hi mx : Option Value) : Stable P (Instr.slice t x lo hi mx) := by
  unfold Instr.slice
  refine Stable.bind (Stable.under _) fun d => ?_
  split
  all_goals repeat' first
    | exact Stable.pure _
    | exact Stable.halt _
    | exact Stable.bounds _ _ _ _
    | exact Stable.under _
    | exact Stable.size _
    | exact Stable.asInt _
    | exact Stable.sure _
    | exact Stable.part _ _ _
    | exact Stable.sliceBound _ _ _
    | exact Stable.sliceBounds _ _ _ _ _ _
    | exact Stable.asAddr _
    | (refine Stable.bind ?_ fun _ => ?_)
    | split
    | (dsimp only; done)
    | dsimp only
theorem Stable.sliceAt (t : TypeId) (x : Value) (lo hi mx : Option Value) : Stable P (Instr.sliceAt t x lo hi mx) := by
  unfold Instr.sliceAt
  refine Stable.bind (Stable.under _) fun d => ?_
  split
  · refine Stable.bind (Stable.sure _) fun d => ?_
    repeat' first
      | exact Stable.pure _
      | exact Stable.halt _
      | exact Stable.bounds _ _ _ _
      | exact Stable.under _
      | exact Stable.size _
      | exact Stable.asInt _
      | exact Stable.sure _
      | exact Stable.part _ _ _
      | exact Stable.sliceBound _ _ _
      | exact Stable.sliceBounds _ _ _ _ _ _
      | (refine Stable.bind ?_ fun _ => ?_)
      | split
      | (dsimp only; done)
      | dsimp only
  · exact Stable.slice _ _ _ _ _
def fieldPlain (P : Program) (t : TypeId) (f : Nat) : Bool :=
  match P.underlying t with
  | some (.struct fs) => match fs[f]? with
    | some fd => match P.info? fd.type with
      | some i => i.size != 0
      | none => false
    | none => false
  | _ => false
theorem Stable.fieldAt (t : TypeId) (x : Value) (f : Nat) (h : fieldPlain P t f = true) : Stable P (Instr.fieldAt t x f) := by
  unfold fieldPlain at h
  split at h
  · rename_i fs hfs
    split at h
    · rename_i fd hfd
      split at h
      · rename_i i hi
        have hsz : i.size ≠ 0 := by simpa using h
        have hrun : ∀ w : World, (Instr.fieldAt t x f).run P w = (do
            let a ← Instr.sureAddr x
            Pure.pure (Value.pointer (some (a.add fd.offset))) : Sem Value).run P w := by
          intro w
          unfold Instr.fieldAt
          simp only [Sem.run_bind, run_underlying hfs, Result.andThen, hfd]
          cases hs : (Instr.sureAddr x).run P w with
          | halt _ _ => rfl
          | ok a w1 =>
            simp only [fieldPlace, Sem.run_bind, sizeOf, typeInfo, Go.program, Sem.run]
            simp [Sem.run, Result.andThen, hi, hsz, Sem.run_bind, Go.program]
        have hst : Stable P (do
            let a ← Instr.sureAddr x
            Pure.pure (Value.pointer (some (a.add fd.offset))) : Sem Value) := Stable.bind (Stable.sure _) fun _ => Stable.pure _
        intro w v w1 hh
        rw [hrun] at hh
        obtain ⟨e, h2⟩ := hst w v w1 hh
        exact ⟨e, fun w' hw' => by rw [hrun]; exact h2 w' hw'⟩
      · cases h
    · cases h
  · cases h
theorem Stable.field (t : TypeId) (x : Value) (f : Nat) : Stable P (Instr.field t x f) := by
  unfold Instr.field
  refine Stable.bind (Stable.under t) fun d => ?_
  split
  · split
    · exact Stable.bind (Stable.asAgg _) fun _ => Stable.part _ _ _
    · exact Stable.halt _
  · exact Stable.halt _
theorem Stable.extract (x : Value) (i : Nat) : Stable P (Instr.extract x i) := by
  unfold Instr.extract
  split
  · split
    · exact Stable.pure _
    · exact Stable.halt _
  · exact Stable.halt _
theorem Stable.unary (op : UnOp) (x : Value) : Stable P (Op.unary op x) := by
  unfold Op.unary
  split <;> first | exact Stable.opArith _ _ _ _ | exact Stable.opBits _ _ _ _ | exact Stable.pure _ | exact Stable.halt _
end

/-! ### the operations that are taken in any order -/
def lenCall (c : Call) : Option (Operand × TypeId) :=
  match c.callee with
  | .builtin b => match b with
    | .len => match c.args.toList, c.argTypes.toList with
      | [x], [t] => some (x, t)
      | _, _ => none
    | _ => none
  | _ => none
theorem lenCall_spec {c : Call} {x : Operand} {t : TypeId} (h : lenCall c = some (x, t)) : c = { callee := .builtin .len, args := #[x], argTypes := #[t] } := by
  obtain ⟨callee, args, types⟩ := c
  obtain ⟨args⟩ := args
  obtain ⟨types⟩ := types
  unfold lenCall at h
  split at h
  · rename_i b hb
    split at h
    · split at h
      · rename_i h1 h2
        simp only [Option.some.injEq, Prod.mk.injEq] at h
        obtain ⟨rfl, rfl⟩ := h
        simp only at hb h1 h2
        subst hb h1 h2
        rfl
      · cases h
    · cases h
  · cases h
def quietKind (P : Program) : Op → Bool
  | .move _ | .assign _ | .pick .. | .load .. | .indexAddr .. | .index .. | .slice .. | .field .. | .extract .. | .unOp .. | .binOp .. | .nilCheck _ => true
  | .fieldAddr t _ f => fieldPlain P t f
  | .convert s d _ => match P.underlying s, P.underlying d with
    | some (.int _), some (.int _) => true
    | _, _ => false
  | .call c => (lenCall c).isSome
  | .build t parts => parts.isEmpty && (P.built t []).isSome
  | _ => false
def plainB (o : Oper) (a : Act) : Bool :=
  match o.op with
  | .binOp _ _ x y _ => plain2 (a.eval x) (a.eval y)
  | .nilCheck x => match a.eval x with
    | .pointer (some _) => true
    | _ => false
  | .convert _ _ x => match a.eval x with
    | .int _ _ => true
    | _ => false
  | .call c => match lenCall c with
    | some (x, _) => match a.eval x with
      | .string _ | .slice _ _ _ => true
      | _ => false
    | none => false
  | _ => true
theorem Stable.len (t ty : TypeId) (x : Value) (h : (match x with | .string _ | .slice _ _ _ => true | _ => false) = true) {P : Program} : Stable P (Builtin.len_ #[t] ty #[x]) := by
  unfold Builtin.len_
  simp only [List.getElem?_toArray, List.getElem?_cons_zero]
  refine Stable.bind (Stable.under _) fun d => ?_
  split at h
  · split <;> first | exact Stable.pure _ | exact Stable.halt _ | (exfalso; simp_all; done) | skip
    all_goals (refine Stable.bind (Stable.under _) fun d => ?_; split <;> first | exact Stable.pure _ | exact Stable.halt _)
  · split <;> first | exact Stable.pure _ | exact Stable.halt _ | (exfalso; simp_all; done) | skip
    all_goals (refine Stable.bind (Stable.under _) fun d => ?_; split <;> first | exact Stable.pure _ | exact Stable.halt _)
  · cases h
theorem Stable.op {P : Program} {o : Oper} {a : Act} (hk : quietKind P o.op = true) (hp : plainB o a = true) : Stable P (execOp a.eval o) := by
  obtain ⟨dst, op, type, pos, after, guard⟩ := o
  have val : ∀ {s : Sem Value}, Stable P s → Stable P (do Pure.pure (Next.value (← s)) : Sem Next) := fun h => Stable.bind h fun _ => Stable.pure _
  cases op <;> first | exact absurd hk Bool.false_ne_true | skip
  case move x => exact Stable.pure _
  case assign x => exact Stable.pure _
  case pick c x y => exact Stable.bind (Stable.asBool _) fun _ => Stable.pure _
  case load t x => exact val (Stable.loadAt _ _)
  case nilCheck x =>
    simp only [plainB] at hp
    simp only [execOp]
    split at hp
    · rename_i ad he
      rw [he]
      exact Stable.pure _
    · cases hp
  case binOp op t x y yt =>
    simp only [plainB] at hp
    exact val (Stable.bind (Stable.guardPlain _ _ _ _ _ _ hp) fun _ => Stable.opPlain _ _ _ _ hp)
  case unOp op t x => exact val (Stable.unary _ _)
  case convert s d x =>
    simp only [plainB] at hp
    simp only [quietKind] at hk
    split at hk
    · rename_i k1 k2 h1 h2
      split at hp
      · rename_i kx nx hx
        refine val ?_
        rw [hx]
        have : ∀ w : World, (convert s d (.int kx nx)).run P w = (Pure.pure (Value.int k2 (k2.wrap nx)) : Sem Value).run P w := by
          intro w
          unfold convert
          simp only [Sem.run_bind, run_underlying h1, run_underlying h2, Result.andThen]
          rfl
        intro w v w1 hh
        rw [this] at hh
        obtain ⟨e, h3⟩ := Stable.pure (P := P) _ w v w1 hh
        exact ⟨e, fun w' hw' => by rw [this]; exact h3 w' hw'⟩
      · cases hp
    · cases hk
  case slice t x lo hi mx => exact val (Stable.sliceAt _ _ _ _ _)
  case fieldAddr t x f => exact val (Stable.fieldAt _ _ _ hk)
  case field t x f => exact val (Stable.field _ _ _)
  case indexAddr t x ix => exact val (Stable.indexAt _ _ _)
  case index t x ix => exact val (Stable.index _ _ _)
  case extract x i => exact val (Stable.extract _ _)
  case build t parts =>
    simp only [quietKind, Bool.and_eq_true] at hk
    obtain ⟨cells, hc⟩ := Option.isSome_iff_exists.1 hk.2
    obtain rfl : parts = #[] := by simpa using hk.1
    have : ∀ w : World, (execOp a.eval { dst, op := .build t #[], type, pos, after, guard }).run P w = (Pure.pure (Next.value (.agg cells)) : Sem Next).run P w := by
      intro w
      have hb := run_build (P := P) w t #[] cells hc
      simp only [execOp, Sem.run_bind, List.map_toArray, List.map_nil, hb, Result.andThen, Sem.run_pure]
    intro w v w1 hh
    rw [this] at hh
    obtain ⟨e, h3⟩ := Stable.pure (P := P) _ w v w1 hh
    exact ⟨e, fun w' hw' => by rw [this]; exact h3 w' hw'⟩
  case call c =>
    obtain ⟨⟨x, t⟩, hc⟩ := Option.isSome_iff_exists.1 hk
    simp only [plainB, hc] at hp
    have hc' := lenCall_spec hc
    subst hc'
    have : ∀ w : World, (execOp a.eval { dst, op := .call { callee := .builtin .len, args := #[x], argTypes := #[t] }, type, pos, after, guard }).run P w = (do Pure.pure (Next.value (← Builtin.len_ #[t] type #[a.eval x])) : Sem Next).run P w := by
      intro w
      simp only [execOp, resolve, invoke, builtin, Sem.run_bind, Sem.run_pure, Result.andThen_ok, List.map_toArray, List.map_cons, List.map_nil]
    have hs := val (Stable.len t type (a.eval x) (by simpa using hp))
    intro w v w1 hh
    rw [this] at hh
    obtain ⟨e, h3⟩ := hs w v w1 hh
    exact ⟨e, fun w' hw' => by rw [this]; exact h3 w' hw'⟩

/-! ### the head in one order -/
section
variable {P : Program} {md : Region.Mode} {ops : Array Oper}
def noQ : Exit → Act → World → Prop := fun _ _ _ => False

theorem wp_off {o : Oper} {a : Act} {w : World} {K K' : Act → World → Prop} {S Q : Exit → Act → World → Prop} (hS : ∀ e a w, S e a w → e = .normal) (h : ∀ a w, K a w → K' a w) (hh : o.wp P a w K S) : o.wp P a w K' Q := by
  unfold Oper.wp at *
  generalize (execOp a.eval o).run P w = r at *
  cases r with
  | ok n w' =>
    cases n <;> simp only [Oper.upon] at hh ⊢
    case value => exact h _ _ hh
    case skip => exact h _ _ hh
    case defer => exact h _ _ hh
    case enter f args =>
      refine Calls.mono hh fun e w'' he => ?_
      cases e with
      | returned v => exact h _ _ he
      | panicked c => exact absurd (hS _ _ _ he) (by simp)
      | outgrown => obtain ⟨_, _, hx⟩ := he; exact absurd (hS _ _ _ hx) (by simp)
    case row => exact Rows.mono hh fun _ _ he => h _ _ he
  | halt x w' =>
    cases x <;> simp only [Oper.upon] at hh ⊢
    exact absurd (hS _ _ _ hh) (by simp)

/-- In every world of C the operation leaves v in its temporary and the world as it is. -/
def YieldsE (P : Program) (ops : Array Oper) (C : World → Prop) (o : Oper) (v : Value) (a : Act) : Prop :=
  (Region.wanted o (yielded ops a.tmps) = true ∧ ∀ w, C w → (execOp a.eval o).run P w = .ok (.value v) w) ∨
  (Region.wanted o (yielded ops a.tmps) = false ∧ v = undef)

theorem YieldsE.go {C : World → Prop} {i : Nat} {o : Oper} {v : Value} {a : Act} {Q : Exit → Act → World → Prop} (hi : ops[i]? = some o) (hy : YieldsE P ops C o v a) {K : Act → World → Prop} {w : World} (hw : C w)
    (h : K (a.put o.dst v) w) : wpOp P ops Q i K a w := by
  unfold wpOp
  simp only [hi]
  rcases hy with ⟨h1, h2⟩ | ⟨h1, rfl⟩
  · rw [if_pos h1]
    exact .inl (by simp only [Oper.wp, h2 w hw, Oper.upon]; exact h)
  · rw [if_neg (by simp [h1])]
    exact h

theorem YieldsE.same {C : World → Prop} {o : Oper} {v : Value} {a a' : Act} (hy : YieldsE P ops C o v a) (he : execOp a'.eval o = execOp a.eval o) (hw : Region.wanted o (yielded ops a'.tmps) = Region.wanted o (yielded ops a.tmps)) :
    YieldsE P ops C o v a' := by
  unfold YieldsE at *
  rw [he, hw]
  exact hy

theorem move_past {C : World → Prop} {j : Nat} {oi oj : Oper} {v : Value} (hj : ops[j]? = some oj) (hap : oi.apart ops oj = true)
    (hsi : ∀ cs b, oi.op ≠ .select cs b) (hsj : ∀ cs b, oj.op ≠ .select cs b) {K : Act → World → Prop} {a : Act} {w : World}
    (hy : YieldsE P ops C oi v a) (h : wpOp P ops noQ j K (a.put oi.dst v) w) :
    wpOp P ops noQ j (fun a' w' => YieldsE P ops C oi v a' ∧ K (a'.put oi.dst v) w') a w := by
  obtain ⟨h1, h2, h3⟩ := Oper.apart_spec hap
  have keep : ∀ u, YieldsE P ops C oi v (a.put oj.dst u) := fun u => hy.same (execOp_put oi hsi a oj.dst u h3) (wanted_put oi a oj.dst u h3)
  have fin : ∀ u w', K ((a.put oi.dst v).put oj.dst u) w' → YieldsE P ops C oi v (a.put oj.dst u) ∧ K ((a.put oj.dst u).put oi.dst v) w' := fun u w' hk =>
    ⟨keep u, by rw [← Act.put_comm a v u h2]; exact hk⟩
  unfold wpOp at h ⊢
  simp only [hj] at h ⊢
  rw [wanted_put oj a oi.dst v h1] at h
  by_cases hw : Region.wanted oj (yielded ops a.tmps) = true
  · rw [if_pos hw] at h ⊢
    rcases h with h | ⟨_, _, _, hx⟩
    · refine .inl ?_
      unfold Oper.wp at h ⊢
      rw [execOp_put oj hsj a oi.dst v h1] at h
      generalize (execOp a.eval oj).run P w = r at *
      cases r with
      | ok n w' =>
        cases n <;> simp only [Oper.upon] at h ⊢
        case value u => exact fin u w' h
        case skip => exact fin undef w' h
        case defer d =>
          have hd : ({ a.put oi.dst v with defers := d :: (a.put oi.dst v).defers } : Act) = ({ a with defers := d :: a.defers } : Act).put oi.dst v := Act.put_defers a oi.dst v d
          rw [hd] at h
          refine ⟨?_, by rw [← Act.put_comm _ v undef h2]; exact h⟩
          exact YieldsE.same (a := { a with defers := d :: a.defers }) (hy.same rfl rfl) (execOp_put oi hsi _ oj.dst undef h3) (wanted_put oi _ oj.dst undef h3)
        case enter f args =>
          refine Calls.mono h fun e w'' he => ?_
          cases e with
          | returned u => exact fin u w'' he
          | panicked c => exact he.elim
          | outgrown => obtain ⟨_, _, hx⟩ := he; exact hx.elim
        case row => exact Rows.mono h fun u w'' he => fin u w'' he
      | halt x w' => cases x <;> simp only [Oper.upon] at h ⊢ <;> exact h
    · exact hx.elim
  · rw [if_neg hw] at h ⊢
    exact fin undef w h

def wpAnyC (P : Program) (md : Region.Mode) (ops : Array Oper) (n : Nat) (C : World → Prop) (L : Array Bool → Act → World → Prop) : Nat → Array Bool → Act → World → Prop
  | 0, listed, a, w => C w ∧ L listed a w
  | f + 1, listed, a, w => C w ∧ Region.ready md ops listed ≠ [] ∧ ∀ i ∈ Region.ready md ops listed, i < n ∧ wpOp P ops noQ i (wpAnyC P md ops n C L f (listed.setIfInBounds i true)) a w

theorem wpAnyC_mono {n : Nat} {C C' : World → Prop} {L : Array Bool → Act → World → Prop} (h : ∀ w, C w → C' w) : ∀ (f : Nat) (listed : Array Bool) (a : Act) (w : World), wpAnyC P md ops n C L f listed a w → wpAnyC P md ops n C' L f listed a w
  | 0, _, _, _, hh => ⟨h _ hh.1, hh.2⟩
  | f + 1, _, _, _, hh => ⟨h _ hh.1, hh.2.1, fun i hi => ⟨(hh.2.2 i hi).1, wpOp_mono (fun a w => wpAnyC_mono h f _ a w) (hh.2.2 i hi).2⟩⟩

theorem wpOp_off {i : Nat} {a : Act} {w : World} {K : Act → World → Prop} {Q : Exit → Act → World → Prop} (h : wpOp P ops noQ i K a w) : wpOp P ops Q i K a w := by
  unfold wpOp at *
  cases ho : ops[i]? with
  | none => rw [ho] at h; exact h
  | some o =>
    rw [ho] at h
    simp only at h ⊢
    by_cases hw : Region.wanted o (yielded ops a.tmps) = true
    · rw [if_pos hw] at h ⊢
      rcases h with h | ⟨_, _, _, hx⟩
      · exact .inl (wp_off (fun _ _ _ hx => hx.elim) (fun _ _ hk => hk) h)
      · exact hx.elim
    · rw [if_neg hw] at h ⊢
      exact h

theorem wpAny_of_C {n g : Nat} {C : World → Prop} {L : Array Bool → Act → World → Prop} {Q : Exit → Act → World → Prop} (hL : ∀ listed a w, L listed a w → wpAny P md ops Q g listed a w) :
    ∀ (f : Nat) (listed : Array Bool) (a : Act) (w : World), wpAnyC P md ops n C L f listed a w → wpAny P md ops Q (f + g) listed a w
  | 0, _, _, _, h => by rw [Nat.zero_add]; exact hL _ _ _ h.2
  | f + 1, listed, a, w, h => by
    rw [show f + 1 + g = (f + g) + 1 by omega]
    exact ⟨fun h0 => absurd h0 h.2.1, fun i hi => wpOp_off (wpOp_mono (fun a' w' h' => wpAny_of_C hL f _ a' w' h') (h.2.2 i hi).2)⟩

/-- While a head operation is not listed, none of the tail may come up. -/
def Blocks (md : Region.Mode) (ops : Array Oper) (n : Nat) : Prop := ∀ listed, HeadInv md ops n listed → ∀ i, i < n → listed.getD i true = false → ∀ t ∈ Region.ready md ops listed, t < n

theorem take_first {n i : Nat} {oi : Oper} {v : Value} {C : World → Prop} {L : Array Bool → Act → World → Prop} (hi : ops[i]? = some oi) (hsel : ∀ (j : Nat) (o : Oper) cs b, ops[j]? = some o → o.op ≠ .select cs b)
    (hblk : Blocks md ops n) (hin : i < n) (hdone : ∀ listed a w, L listed a w → ∀ j ∈ Region.ready md ops listed, n ≤ j) :
    ∀ (f : Nat) (listed : Array Bool) (a : Act) (w : World), HeadInv md ops n listed →
      (∀ j oj, ops[j]? = some oj → j ≠ i → listed.getD j true = false → (∀ e ∈ oj.after, Region.binds md e = true → e.on ≠ i) → oi.apart ops oj = true) →
      i ∈ Region.ready md ops listed → YieldsE P ops C oi v a → C w →
      wpAnyC P md ops n C L f (listed.setIfInBounds i true) (a.put oi.dst v) w → wpAnyC P md ops n C L (f + 1) listed a w := by
  intro f
  induction f with
  | zero =>
    intro listed a w inv _ hr hy hw H
    have hun := (mem_ready.1 hr).1
    refine ⟨hw, fun h => (by rw [h] at hr; cases hr), fun j hj => ?_⟩
    have hjn := hblk listed inv i hin hun j hj
    refine ⟨hjn, ?_⟩
    by_cases hji : j = i
    · subst hji
      exact hy.go hi hw H
    · have := hdone _ _ _ H.2 j (ready_mono hj hji)
      omega
  | succ f ih =>
    intro listed a w inv hfree hr hy hw H
    have hun := (mem_ready.1 hr).1
    refine ⟨hw, fun h => (by rw [h] at hr; cases hr), fun j hj => ?_⟩
    have hjn := hblk listed inv i hin hun j hj
    refine ⟨hjn, ?_⟩
    by_cases hji : j = i
    · subst hji
      exact hy.go hi hw H
    · have h1 := (H.2.2 j (ready_mono hj hji)).2
      obtain ⟨hjun, oj, hoj, hall⟩ := mem_ready.1 hj
      have hnot : ∀ e ∈ oj.after, Region.binds md e = true → e.on ≠ i := fun e he hb heq => by
        have h1 := hall e he hb
        rw [heq, getD_both hun] at h1
        cases h1
      have h2 := move_past hoj (hfree j oj hoj hji hjun hnot) (fun cs b => hsel i oi cs b hi) (fun cs b => hsel j oj cs b hoj) hy h1
      have hfree' : ∀ k ok, ops[k]? = some ok → k ≠ i → (listed.setIfInBounds j true).getD k true = false →
          (∀ e ∈ ok.after, Region.binds md e = true → e.on ≠ i) → oi.apart ops ok = true := fun k ok hk hki hun2 hno => by
        refine hfree k ok hk hki ?_ hno
        by_cases hjk : j = k
        · subst hjk; exact hjun
        · rw [getD_set_ne true hjk] at hun2; exact hun2
      refine wpOp_mono (fun a' w' h3 => ?_) h2
      have hcw : C w' := by
        cases f with
        | zero => exact h3.2.1
        | succ f => exact h3.2.1
      refine ih (listed.setIfInBounds j true) a' w' (inv.set hj hjn) hfree' (ready_mono hr (Ne.symm hji)) h3.1 hcw ?_
      rw [Array.setIfInBounds_comm _ _ hji]
      exact h3.2

def stopQ (w : World) (K : Act → World → Prop) : Exit → Act → World → Prop
  | .normal, a', w' => w' = w ∧ K a' w'
  | _, _, _ => False
def stopA (w : World) (K : Act → World → Prop) : Exit → Act → World → Prop
  | .normal, a', w' => Ext w w' ∧ K a' w'
  | _, _, _ => False
theorem stopQ_off {w0 : World} {K : Act → World → Prop} (e : Exit) (a : Act) (w : World) (h : stopQ w0 K e a w) : e = .normal := by
  cases e <;> first | rfl | exact h.elim
theorem stopA_off {w0 : World} {K : Act → World → Prop} (e : Exit) (a : Act) (w : World) (h : stopA w0 K e a w) : e = .normal := by
  cases e <;> first | rfl | exact h.elim

def wpX (P : Program) (ops : Array Oper) (Q : Exit → Act → World → Prop) (tail : List Oper) : List Nat → Act → World → Prop
  | [], a, w => wpList P ops Q tail a w
  | i :: r, a, w => match ops[i]? with
    | none => False
    | some o =>
      if quietKind P o.op = true then (Region.wanted o (yielded ops a.tmps) = true → plainB o a = true) ∧ wpList P ops (stopQ w (wpX P ops Q tail r)) [o] a w
      else wpList P ops (stopA w (wpX P ops Q tail r)) [o] a w

theorem wpX_quiet {Q : Exit → Act → World → Prop} {tail : List Oper} {i : Nat} {r : List Nat} {a : Act} {w : World} {o : Oper} (hi : ops[i]? = some o) (hk : quietKind P o.op = true) (hp : plainB o a = true)
    (h : wpList P ops (stopQ w (wpX P ops Q tail r)) [o] a w) : wpX P ops Q tail (i :: r) a w := by
  simp only [wpX, hi, hk, if_true]
  exact ⟨fun _ => hp, h⟩
theorem wpX_skip {Q : Exit → Act → World → Prop} {tail : List Oper} {i : Nat} {r : List Nat} {a : Act} {w : World} {o : Oper} (hi : ops[i]? = some o) (hw : Region.wanted o (yielded ops a.tmps) = false)
    (h : wpX P ops Q tail r (a.put o.dst undef) w) : wpX P ops Q tail (i :: r) a w := by
  simp only [wpX, hi]
  have h1 : ∀ S : Exit → Act → World → Prop, S .normal (a.put o.dst undef) w → wpList P ops S [o] a w := fun S hS => by
    simp only [wpList, hw, Bool.false_eq_true, if_false]
    exact hS
  split
  · exact ⟨fun hx => absurd hx (by simp [hw]), h1 _ ⟨rfl, h⟩⟩
  · exact h1 _ ⟨Ext.refl _, h⟩
theorem wpX_actor {Q : Exit → Act → World → Prop} {tail : List Oper} {i : Nat} {r : List Nat} {a : Act} {w : World} {o : Oper} (hi : ops[i]? = some o) (hk : quietKind P o.op = false)
    (h : wpList P ops (stopA w (wpX P ops Q tail r)) [o] a w) : wpX P ops Q tail (i :: r) a w := by
  simp only [wpX, hi, hk, Bool.false_eq_true, if_false]
  exact h
theorem wpX_nil {Q : Exit → Act → World → Prop} {tail : List Oper} {a : Act} {w : World} (h : wpList P ops Q tail a w) : wpX P ops Q tail [] a w := h

def headSim (P : Program) (md : Region.Mode) (ops : Array Oper) (n : Nat) : List Nat → Array Bool → Bool
  | [], listed => Region.seqB md ops (ops.size - n) n listed
  | i :: r, listed => decide (i < n) && (match ops[i]? with
      | none => false
      | some o => if quietKind P o.op = true then (Region.ready md ops listed).contains i && Region.free md ops listed i else decide (Region.ready md ops listed = [i])) &&
    headSim P md ops n r (listed.setIfInBounds i true)
def headB (P : Program) (md : Region.Mode) (ops : Array Oper) (n : Nat) (r : List Nat) : Bool :=
  Region.noSelect ops && (decide (n = ops.size) || (decide (n < ops.size) && Region.sinkB md ops n && Region.chainB md ops n)) && decide (r.length = n) && headSim P md ops n r (Array.replicate ops.size false)

theorem wpAnyC_of_X {n : Nat} {Q : Exit → Act → World → Prop} {tail : List Oper} (hsel : ∀ (j : Nat) (o : Oper) cs b, ops[j]? = some o → o.op ≠ .select cs b) (hblk : Blocks md ops n) :
    ∀ (r : List Nat) (listed : Array Bool) (a : Act) (w : World), HeadInv md ops n listed → headSim P md ops n r listed = true → wpX P ops Q tail r a w →
      wpAnyC P md ops n (Ext w) (fun listed' a' w' => Region.seqB md ops (ops.size - n) n listed' = true ∧ wpList P ops Q tail a' w') r.length listed a w
  | [], _, _, w, _, hB, h => ⟨Ext.refl w, hB, h⟩
  | i :: r, listed, a, w, inv, hB, h => by
    simp only [headSim, Bool.and_eq_true, decide_eq_true_eq] at hB
    obtain ⟨⟨hin, hB1⟩, hB2⟩ := hB
    cases ho : ops[i]? with
    | none => rw [ho] at hB1; cases hB1
    | some o =>
      rw [ho] at hB1
      simp only [wpX, ho] at h
      simp only at hB1
      have hdone : ∀ (listed : Array Bool) (a : Act) (w : World), (Region.seqB md ops (ops.size - n) n listed = true ∧ wpList P ops Q tail a w) → ∀ j ∈ Region.ready md ops listed, n ≤ j := fun _ _ _ hx => seqB_ready hx.1
      by_cases hk : quietKind P o.op = true
      · rw [if_pos hk] at hB1 h
        simp only [Bool.and_eq_true] at hB1
        have hr : i ∈ Region.ready md ops listed := by simpa using hB1.1
        obtain ⟨hp, h⟩ := h
        simp only [wpList] at h
        have key : ∃ v, YieldsE P ops (Ext w) o v a ∧ wpX P ops Q tail r (a.put o.dst v) w := by
          by_cases hw : Region.wanted o (yielded ops a.tmps) = true
          · rw [if_pos hw] at h
            rcases h with h | ⟨_, _, _, hx⟩
            · have hst := Stable.op (P := P) (o := o) (a := a) hk (hp hw)
              unfold Oper.wp at h
              cases hrun : (execOp a.eval o).run P w with
              | halt x w' =>
                rw [hrun] at h
                cases x <;> simp only [Oper.upon] at h
                exact h.elim
              | ok nx w' =>
                obtain ⟨rfl, hall⟩ := hst w nx w' hrun
                rw [hrun] at h
                have hval : ∃ v, nx = .value v := by
                  obtain ⟨dst, op, type, pos, after, guard⟩ := o
                  have fromVal : ∀ {s : Sem Value}, (do Pure.pure (Next.value (← s)) : Sem Next).run P w' = .ok nx w' → ∃ v, nx = .value v := fun {s} hs => by
                    rw [Sem.run_bind] at hs
                    cases hs2 : s.run P w' with
                    | halt _ _ => rw [hs2] at hs; cases hs
                    | ok v w2 =>
                      rw [hs2] at hs
                      simp only [Result.andThen, Sem.run_pure, Result.ok.injEq] at hs
                      exact ⟨v, hs.1.symm⟩
                  cases op <;> first | exact absurd hk Bool.false_ne_true | exact fromVal hrun | skip
                  case move x => simp only [execOp, Sem.run_pure, Result.ok.injEq] at hrun; exact ⟨_, hrun.1.symm⟩
                  case assign x => simp only [execOp, Sem.run_pure, Result.ok.injEq] at hrun; exact ⟨_, hrun.1.symm⟩
                  case pick c x y =>
                    simp only [execOp, Sem.run_bind] at hrun
                    cases hs2 : (asBool (a.eval c)).run P w' with
                    | halt _ _ => rw [hs2] at hrun; cases hrun
                    | ok v w2 =>
                      rw [hs2] at hrun
                      simp only [Result.andThen, Sem.run_pure, Result.ok.injEq] at hrun
                      exact ⟨_, hrun.1.symm⟩
                  case nilCheck x =>
                    have hp' := hp hw
                    simp only [plainB] at hp'
                    simp only [execOp] at hrun
                    split at hp'
                    · rename_i ad he
                      rw [he] at hrun
                      simp only [Sem.run_pure, Result.ok.injEq] at hrun
                      exact ⟨_, hrun.1.symm⟩
                    · cases hp'
                  case call c =>
                    obtain ⟨⟨x, t⟩, hc⟩ := Option.isSome_iff_exists.1 (show (lenCall c).isSome = true from hk)
                    have hc' := lenCall_spec hc
                    subst hc'
                    refine fromVal (s := Builtin.len_ #[t] type #[a.eval x]) ?_
                    rw [← hrun]
                    simp only [execOp, resolve, invoke, builtin, Sem.run_bind, Sem.run_pure, Result.andThen_ok, List.map_toArray, List.map_cons, List.map_nil]
                obtain ⟨v, rfl⟩ := hval
                simp only [Oper.upon] at h
                exact ⟨v, .inl ⟨hw, fun w2 hw2 => hall w2 hw2⟩, h.2⟩
            · exact hx.elim
          · rw [if_neg hw] at h
            exact ⟨undef, .inr ⟨by simpa using hw, rfl⟩, h.2⟩
        obtain ⟨v, hy, hX⟩ := key
        exact take_first ho hsel hblk hin hdone r.length listed a w inv (fun j oj hj hne hun hno => Region.free_spec ho hB1.2 j oj hj hne hun hno) hr hy (Ext.refl w)
          (wpAnyC_of_X hsel hblk r _ _ w (inv.set hr hin) hB2 hX)
      · rw [if_neg hk] at hB1 h
        have hready : Region.ready md ops listed = [i] := by simpa using hB1
        have hr : i ∈ Region.ready md ops listed := by rw [hready]; simp
        refine ⟨Ext.refl w, by rw [hready]; simp, fun j hj => ?_⟩
        rw [hready] at hj
        have hji : j = i := by simpa using hj
        subst hji
        refine ⟨hin, ?_⟩
        have step : ∀ a' w', stopA w (wpX P ops Q tail r) .normal a' w' → wpAnyC P md ops n (Ext w) (fun listed' a' w' => Region.seqB md ops (ops.size - n) n listed' = true ∧ wpList P ops Q tail a' w') r.length (listed.setIfInBounds j true) a' w' :=
          fun a' w' hs => wpAnyC_mono (fun w2 h2 => hs.1.trans h2) _ _ _ _ (wpAnyC_of_X hsel hblk r _ a' w' (inv.set hr hin) hB2 hs.2)
        unfold wpOp
        simp only [ho]
        simp only [wpList] at h
        by_cases hw : Region.wanted o (yielded ops a.tmps) = true
        · rw [if_pos hw] at h ⊢
          rcases h with h | ⟨_, _, _, hx⟩
          · exact .inl (wp_off stopA_off step h)
          · exact hx.elim
        · rw [if_neg hw] at h ⊢
          exact step _ _ h

theorem wp_region_x {id : Nat} {Q : Exit → Act → World → Prop} {a : Act} {w : World} {l : List Oper} (n : Nat) (r : List Nat) (hm : P.follows .mixedOrders = true) (hB : headB P .any l.toArray n r = true)
    (h : wpX P l.toArray Q (l.drop n) r a w.drew) : (Code.region id l.toArray true).wp P Q a w := by
  simp only [headB, Bool.and_eq_true, Bool.or_eq_true, decide_eq_true_eq] at hB
  obtain ⟨⟨⟨hsel, hcut⟩, hlen⟩, hsim⟩ := hB
  have hnl : n ≤ l.length := by
    rcases hcut with h1 | h1
    · simp at h1; omega
    · have := h1.1.1; simp at this; omega
  have hblk : Blocks .any l.toArray n := by
    rcases hcut with h1 | h1
    · intro listed _ i _ _ t ht
      obtain ⟨_, o, ho, _⟩ := mem_ready.1 ht
      have := (Array.getElem?_eq_some_iff.1 ho).1
      omega
    · intro listed inv i hin hun t ht
      rcases Nat.lt_or_ge t n with h2 | h2
      · exact h2
      · exact absurd ht (tail_waits h1.1.2 h1.2 h1.1.1 inv _ i rfl hin hun t h2)
  have inv0 : HeadInv .any l.toArray n (Array.replicate l.toArray.size false) :=
    ⟨by simp, fun j oj _ hl => (by rw [getD_replicate_false] at hl; cases hl), fun t _ ht => getD_in (by simpa using ht) (getD_replicate_false _ _)⟩
  have h1 := wpAnyC_of_X (P := P) (Region.noSelect_spec hsel) hblk r _ a w.drew inv0 hsim h
  have hdl : (l.drop n).length = l.toArray.size - n := by simp
  have h2 := wpAny_of_C (Q := Q) (g := l.toArray.size - n) (fun listed' a' w' hx => by
    rw [← hdl]
    refine wpAny_of_seq (l.drop n) n listed' a' w' (fun j => by simp [List.getElem?_drop]) ?_ hx.2
    rw [hdl]
    exact hx.1) r.length _ a w.drew h1
  refine wp_region_any hm ?_
  rw [show l.toArray.size = r.length + (l.toArray.size - n) by simp; omega]
  rw [show r.length + (l.toArray.size - n) = l.toArray.size by simp; omega]
  rw [show r.length + (l.toArray.size - n) = l.toArray.size by simp; omega] at h2
  exact h2
end
end Go.Proofs.Ytoffelfcmfpooaa
