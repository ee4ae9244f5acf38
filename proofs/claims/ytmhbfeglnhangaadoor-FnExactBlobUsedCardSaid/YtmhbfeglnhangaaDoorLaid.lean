/-
  The listed table of constants: what a row's cell 'laid' gives of the world, and a world that meets it. No condition.
-/
import Derived.Test.YtmhbfeglnhangaaDoorEndV
import Derived.Test.YtmhbfeglnhangaaDoorSha4
import Derived.Lib.LaidU8
import Derived.Deep.DeepLaidRun
import Derived.SevenTiedAt
namespace Go.Proofs.YtmhbfeglnhangaaDoor
open Go.RowKit Go.ChangeShapes Go.WideShapes Go.ChangeAt

def LL : List (String × DataW Unit) := [("loop.example/g00954/impl.shaWords", Rows.laid_loop_example_g00954_impl_shaWords)]
theorem LL_data : (Rows.laid_loop_example_g00954_impl_shaWords : DataW Unit) = .agg (shaK.map fun (k : Nat) => DataW.lit (.int .u32 (k : Int))) := by rfl
theorem gName : Tryd.prog.globalNamed "loop.example/g00954/impl.shaWords" = some 0 := by kernel_rfl
theorem gType : (Tryd.prog.globals[(0 : Nat)]?).map (·.type) = some 60 := by kernel_rfl
theorem gRead : Tryd.prog.readableRec 60 = true := by kernel_rfl
theorem gRow : 60 < Tryd.prog.types.size := of_decide_eq_true (by kernel_rfl)
theorem gCells : Tryd.prog.cellsOf 44 = 1 := by kernel_rfl
theorem kk_of_laid {W : World} (hL : laidMetH Tryd.prog LL W) : KK W := by
  have hL2 : laidMet Tryd.prog LL W := hL
  obtain ⟨g, t, cs, fuel, p, h1, h2, h3, h4⟩ := Lib.laidMet.reads hL2 (.head _)
  obtain rfl : 0 = g := Option.some.inj (gName.symm.trans h1)
  obtain rfl : 60 = t := Option.some.inj (gType.symm.trans h2)
  rw [LL_data] at h4
  intro j hj
  obtain ⟨fuel', d, q, hd, ht⟩ := Lib.array_elem Tryd.underlying60 h4 j hj
  rw [gCells, Nat.mul_one] at ht
  obtain ⟨z, hz, hdq, _⟩ := DataW.trod_int Tryd.underlying44 ht
  obtain ⟨rfl, rfl⟩ := Prod.mk.inj hdq
  have hl : j < shaK.length := by rw [shaK_length]; exact hj
  rw [List.getElem?_map, List.getElem?_eq_getElem hl] at hd
  simp only [Option.map_some, Option.some.injEq, DataW.lit.injEq, Lit.int.injEq, true_and] at hd
  have h5 : cs.toList[j]? = some (.int .u32 z) := by
    have := congrArg (·[0]?) hz
    simpa [List.getElem?_take, List.getElem?_drop] using this
  rw [World.var?_cell gName h3 j]
  rw [← Array.getElem?_toList, h5, ← hd, List.getD_eq_getElem?_getD, List.getElem?_eq_getElem hl]
  rfl
noncomputable def laidW (os : Os) : World :=
  let w0 := World.holding Tryd.prog os ⟨#[], #[], []⟩
  { w0 with heap := w0.heap.modify 0 fun
      | .cells _ t frozen => .cells (shaK.map u32v).toArray t frozen
      | o => o }
theorem laidW_met (os : Os) (args : Array Value) : laidMetH Tryd.prog LL ((laidW os).forCall (fun _ _ => 0) ⟨#[], args, []⟩).memory := by
  show laidMet Tryd.prog LL ((laidW os).forCall (fun _ _ => 0) ⟨#[], args, []⟩).memory
  exact laidMet_of_run3 8 (by kernel_rfl) (by kernel_rfl) (by kernel_rfl)
end Go.Proofs.YtmhbfeglnhangaaDoor
