/-
  Nodes: impl.ENodeNew, spec.ENodeNew. Conditions: as each contract names them.
-/
import Derived.Test.YtoffelfcmfpooaaEq
import Derived.Test.YtoffelfcmfpooaaNum
import Derived.Test.YtoffelfcmfpooaaRet
namespace Go.Proofs.Ytoffelfcmfpooaa
open Go.RowKit
theorem Own.sl_none {w : World} {base e sz : Nat} (i : Cs) (hi : i = .nil) : Own w base (.sl e sz 0 i .nil) [.slice none 0 0] [] := by
  subst hi
  exact Own.sl1.2 ⟨[], [], rfl, by simp [Cs.width], ⟨by simp, .inl ⟨rfl, rfl⟩⟩, Own.nil.2 ⟨rfl, rfl⟩⟩

















































































end Go.Proofs.Ytoffelfcmfpooaa
