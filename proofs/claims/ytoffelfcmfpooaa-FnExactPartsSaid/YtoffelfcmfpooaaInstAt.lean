/-
  An instance by its Id: spec.InstAt. Conditions: a bound on the sizes.
-/
import Derived.Test.YtoffelfcmfpooaaCpyI
import Derived.Test.YtoffelfcmfpooaaCpyIS
import Derived.Test.YtoffelfcmfpooaaInsts
namespace Go.Proofs.Ytoffelfcmfpooaa
open Go.RowKit

def newInst (x : IdD) : InstD := ⟨x, -1, -1, 0, ⟨0, 0, 0, [], [], [], 0, []⟩, 0, [], false⟩
def fInstAt (xs : List InstD) (x : IdD) : InstD := (xs.find? fun y => decide (y.id = x)).getD (newInst x)
theorem instAt_yes {xs : List InstD} {x : IdD} {j : Nat} (hj : j < xs.length) (h : ∀ i (hi : i < xs.length), i < j → ¬ xs[i].id = x) (he : xs[j].id = x) : fInstAt xs x = xs[j] := by
  unfold fInstAt
  have : xs.find? (fun y => decide (y.id = x)) = some xs[j] := by
    rw [List.find?_eq_some_iff_getElem]
    refine ⟨by simpa using he, j, hj, rfl, fun i hi => ?_⟩
    simpa using h i (by omega) hi
  rw [this]; rfl
theorem instAt_no {xs : List InstD} {x : IdD} (h : ∀ i (hi : i < xs.length), ¬ xs[i].id = x) : fInstAt xs x = newInst x := by
  unfold fInstAt
  have : xs.find? (fun y => decide (y.id = x)) = none := by
    rw [List.find?_eq_none]
    intro y hy
    obtain ⟨i, hi, rfl⟩ := List.getElem_of_mem hy
    simpa using h i hi
  rw [this]; rfl
theorem newInst_mine (w : World) (base : Nat) (xr xs' : Int) : Mine w base (newInst ⟨xr, xs'⟩).c [.int .i64 xr, .int .i64 xs', .int .i64 (-1), .int .i64 (-1), .int .i64 0, .int .i64 0, .int .i64 0, .int .i64 0, .string (bs []), .string (bs []), .string (bs []), .int .i64 0, .slice none 0 0, .int .i64 0, .slice none 0 0, .bool false] :=
  ⟨[], List.nodup_nil, InstD.shutO (x := newInst ⟨xr, xs'⟩) (F0 := []) (F1 := []) (Own.sl_none _ rfl) (Own.sl_none _ rfl)⟩






















































































































end Go.Proofs.Ytoffelfcmfpooaa
