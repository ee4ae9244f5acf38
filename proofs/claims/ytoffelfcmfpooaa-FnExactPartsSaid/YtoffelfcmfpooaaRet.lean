/-
  A return of a struct and a value beside it. Conditions: as the law names them.
-/
import Derived.Test.YtoffelfcmfpooaaRow
namespace Go.Proofs.Ytoffelfcmfpooaa
open Go.RowKit
theorem bodyPost_cell2 {P : Program} {fn : Func} {R : Ending → World → Prop} {a : Act} {w : World} {s s2 : Tmp} {t n : Nat} (hres : fn.results = #[.cell s t, .tmp s2]) (p : Addr) (hp : a.tmps.getD s undef = .pointer (some p)) (cs : List Value) (u : Value) (hu : a.tmps.getD s2 undef = u) (h : Agg P t n) (hl : cs.length = n)
    (hc : ∀ j v, cs[j]? = some v → w.cell? (p.add j) = some v) (hd : a.defers = []) (hR : R (.returned (.tuple #[.agg cs.toArray, u])) w) : bodyPost P fn R .ret a w := by
  refine bodyPost_ret (v := .tuple #[.agg cs.toArray, u]) ?_ hd hR
  unfold results
  rw [hres]
  have hp2 : a.tmps[s]?.getD undef = .pointer (some p) := by simpa using hp
  have hu2 : a.tmps[s2]?.getD undef = u := by simpa using hu
  simp [hp2, hu2, asAddr, loadVar, (hl ▸ h : Agg P t cs.length).isAgg, (hl ▸ h : Agg P t cs.length).size, run_loadCells_list (P := P) (w := w) p cs hc, Result.andThen]
end Go.Proofs.Ytoffelfcmfpooaa
