/-
  Messages as text: impl.ShowEMsg, spec.ShowEMsg. Conditions: bounds on the sizes.
-/
import Derived.Test.YtbdblfpepnoafaaShEIf
import Derived.Test.YtbdblfpepnoafaaShEIt
import Derived.Test.YtbdblfpepnoafaaShESf
import Derived.Test.YtbdblfpepnoafaaShESt
namespace Go.Proofs.Ytbdblfpepnoafaa
open Go.RowKit

theorem iShowEMsg_any (x : EMsgD) (cs0 : List Value) (w : World) (hwt0 : x.c.wt ≤ 1048576) (h0 : Rep anyB w x.c cs0) :
    Calls Try.prog 23 #[.agg cs0.toArray] w fun e w' => e = .returned (.string (bs (showEMsgL x))) ∧ Below w.heap.size w w' := by
  cases h : x.same
  · exact iShowEMsg_false x cs0 w hwt0 h0 h
  · exact iShowEMsg_true x cs0 w hwt0 h0 h


theorem sShowEMsg_any (x : EMsgD) (cs0 : List Value) (w : World) (hwt0 : x.c.wt ≤ 1048576) (h0 : Rep anyB w x.c cs0) :
    Calls Try.prog 22 #[.agg cs0.toArray] w fun e w' => e = .returned (.string (bs (showEMsgL x))) ∧ Below w.heap.size w w' := by
  cases h : x.same
  · exact sShowEMsg_false x cs0 w hwt0 h0 h
  · exact sShowEMsg_true x cs0 w hwt0 h0 h

end Go.Proofs.Ytbdblfpepnoafaa
