/-
  Laws for arrays loaded whole, stored whole, and as a result. Conditions: as each law names them.
-/
import Derived.Test.YtinacpjelephoaaRow
namespace Go.Proofs.Ytinacpjelephoaa
open Go.RowKit

section
variable {P : Program}
/-- an array type of so many cells -/
structure AggA (P : Program) (t : TypeId) (n : Nat) : Prop where
  agg : (match P.underlying t with | some (.array _ _) => true | _ => false) = true
  info : (P.info? t).map (fun i => i.size) = some n
theorem AggA.isAgg {t : TypeId} {n : Nat} (h : AggA P t n) (w : World) : (isAgg t).run P w = .ok true w := by
  have h1 := h.agg
  split at h1
  · rename_i fs gs hfs
    unfold Go.isAgg
    simp [Sem.run_bind, run_underlying hfs, Result.andThen]
  · cases h1
theorem AggA.size {t : TypeId} {n : Nat} (h : AggA P t n) (w : World) : (sizeOf t).run P w = .ok n w := by
  obtain ⟨i, hi, hz⟩ := Option.map_eq_some_iff.1 h.info
  unfold sizeOf typeInfo Go.program
  simp only [Sem.run_bind, Sem.run, Result.andThen, hi, hz, Sem.run_pure]
theorem run_load_arr (w : World) {t : TypeId} (p : Addr) (cs : List Value) (h : AggA P t cs.length) (hc : ∀ j v, cs[j]? = some v → w.cell? (p.add j) = some v) :
    (Instr.loadAt t (.pointer (some p))).run P w = .ok (.agg cs.toArray) w := by
  unfold Instr.loadAt Instr.sureAddr loadVar
  simp only [Sem.run_bind, Sem.run_pure, Result.andThen, h.isAgg, h.size, if_true]
  rw [run_loadCells_list (P := P) (w := w) p cs hc]
theorem wpList_load_arr (w : World) {ops : Array Oper} {rest : List Oper} {a : Act} {Q : Exit → Act → World → Prop} {t ty : TypeId} {x : Operand} {ps : String} {af : Array Edge} {dst : Option Tmp} (p : Addr) (hx : a.eval x = .pointer (some p)) (cs : List Value) {n : Nat} (h : AggA P t n) (hl : cs.length = n)
    (hc : ∀ j v, cs[j]? = some v → w.cell? (p.add j) = some v) (hK : wpList P ops Q rest (a.put dst (.agg cs.toArray)) w) : wpList P ops Q ({ dst := dst, op := Op.load t x, type := ty, pos := ps, after := af, guard := none } :: rest) a w := by
  refine wpList_plain rfl fun K hK' => ?_
  unfold Oper.wp
  simp only [execOp, hx, Sem.run_bind, run_load_arr w p cs (hl ▸ h) hc, Result.andThen, Sem.run_pure]
  exact hK' _ _ hK
theorem wpList_store_arr (w : World) {ops : Array Oper} {rest : List Oper} {a : Act} {Q : Exit → Act → World → Prop} {t ty : TypeId} {x y : Operand} {ps : String} {af : Array Edge} (g e off : Nat) (cs A M C : List Value) (cur : Array Value) (hx : a.eval x = .pointer (some ⟨g, off, none⟩)) (hy : a.eval y = .agg cs.toArray) (h : AggA P t cs.length)
    (hb : Blk w g e cur) (hc : cur.toList = A ++ (M ++ C)) (hA : A.length = off) (hM : M.length = cs.length) (h1 : ∀ u ∈ cs, u.oneCell' = true)
    (hK : ∀ w', Blk w' g e (A ++ (cs ++ C)).toArray → w.grownBy w' (some g) → wpList P ops Q rest a w') : wpList P ops Q ({ dst := none, op := Op.store t x y, type := ty, pos := ps, after := af, guard := none } :: rest) a w := by
  refine wpList_plain rfl fun K hK' => ?_
  have hsz : cur.size = A.length + (M.length + C.length) := by
    have := congrArg List.length hc
    simpa using this
  have hs := run_storeCells_at (P := P) g off e cs 0 cur w hb (by omega) h1
  have e1 : cur.toList.take (off + 0) ++ cs ++ cur.toList.drop (off + 0 + cs.length) = A ++ (cs ++ C) := by
    rw [Nat.add_zero, hc, ← hA, ← hM, List.take_left', List.append_assoc, ← List.append_assoc A M C, ← List.length_append, List.drop_left']
    all_goals rfl
  rw [e1] at hs
  have hrun : (Instr.storeAt t (.pointer (some ⟨g, off, none⟩)) (.agg cs.toArray)).run P w = .ok () (w.setRow g (A ++ (cs ++ C)).toArray) := by
    unfold Instr.storeAt Instr.sureAddr storeVar
    simp [Sem.run_bind, Sem.run_pure, Result.andThen, Value.cells, h.size, hs]
  unfold Oper.wp
  simp only [execOp, hx, hy, Sem.run_bind, Sem.run_pure, Result.andThen, hrun]
  exact hK' (a.put none undef) (w.setRow g (A ++ (cs ++ C)).toArray) (hK _ (setRow_blk hb) (setRow_grown _ _ _))
theorem bodyPost_arr {fn : Func} {R : Ending → World → Prop} {a : Act} {w : World} {s : Tmp} {t n : Nat} (hres : fn.results = #[.cell s t]) (p : Addr) (hp : a.tmps.getD s undef = .pointer (some p)) (cs : List Value) (h : AggA P t n) (hl : cs.length = n)
    (hc : ∀ j v, cs[j]? = some v → w.cell? (p.add j) = some v) (hd : a.defers = []) (hR : R (.returned (.agg cs.toArray)) w) : bodyPost P fn R .ret a w := by
  refine bodyPost_ret (v := .agg cs.toArray) ?_ hd hR
  unfold results
  rw [hres]
  have hp2 : a.tmps[s]?.getD undef = .pointer (some p) := by simpa using hp
  simp [hp2, asAddr, loadVar, (hl ▸ h : AggA P t cs.length).isAgg, (hl ▸ h : AggA P t cs.length).size, run_loadCells_list (P := P) (w := w) p cs hc, Result.andThen]
end
end Go.Proofs.Ytinacpjelephoaa
