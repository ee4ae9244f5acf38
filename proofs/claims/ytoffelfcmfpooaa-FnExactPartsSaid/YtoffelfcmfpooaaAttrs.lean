/-
  AttrsOf as a plain function; the reference's l8Attrs and AttrsOf. Conditions: bounds on the sizes.
-/
import Derived.Test.YtoffelfcmfpooaaInsts
import Derived.Test.YtoffelfcmfpooaaClash
import Derived.Test.YtoffelfcmfpooaaFlat
import Derived.Test.YtoffelfcmfpooaaRegG
namespace Go.Proofs.Ytoffelfcmfpooaa
open Go.RowKit









































def idCells : List IdD → List Value
  | [] => []
  | s :: r => .int .i64 s.rep :: .int .i64 s.slot :: idCells r
theorem idCells_length : ∀ xs : List IdD, (idCells xs).length = xs.length * 2
  | [] => rfl
  | s :: r => by rw [idCells, List.length_cons, List.length_cons, idCells_length r, List.length_cons]; omega
theorem idCells_app : ∀ a b : List IdD, idCells (a ++ b) = idCells a ++ idCells b
  | [], _ => rfl
  | s :: r, b => by rw [List.cons_append, idCells, idCells, idCells_app r b]; rfl
theorem own_ids (w : World) (base : Nat) : ∀ xs : List IdD, Own w base (cat IdD.c xs) (idCells xs) []
  | [] => Own.nil.2 ⟨rfl, rfl⟩
  | s :: r => by
    rw [cat_cons]
    exact Own.app.2 ⟨[_, _], idCells r, [], [], rfl, rfl, IdD.shutO (x := s), own_ids w base r⟩



















end Go.Proofs.Ytoffelfcmfpooaa
