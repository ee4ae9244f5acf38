/-
  The same message: the contracts, their arguments in the laws' order. Conditions: bounds on the sizes.
-/
import Derived.Test.YtbdblfpepnoafaaSmI
import Derived.Test.YtbdblfpepnoafaaSmS
namespace Go.Proofs.Ytbdblfpepnoafaa
open Go.RowKit

theorem iSameMsg2_any (x y : EMsgD) (cs cs' : List Value) (w : World) (hwt : x.c.wt ≤ 1048576) (hwt' : y.c.wt ≤ 1048576) (h : Rep anyB w x.c cs) (h' : Rep anyB w y.c cs') :
    Calls Try.prog 21 #[.agg cs.toArray, .agg cs'.toArray] w fun e w' => e = .returned (.bool (emsgSame x y)) ∧ Below w.heap.size w w' := iSameMsg_any x cs y cs' w hwt hwt' h h'
theorem sSameMsg2_any (x y : EMsgD) (cs cs' : List Value) (w : World) (hwt : x.c.wt ≤ 1048576) (hwt' : y.c.wt ≤ 1048576) (h : Rep anyB w x.c cs) (h' : Rep anyB w y.c cs') :
    Calls Try.prog 20 #[.agg cs.toArray, .agg cs'.toArray] w fun e w' => e = .returned (.bool (emsgSame x y)) ∧ Below w.heap.size w w' := sSameMsg_any x cs y cs' w hwt hwt' h h'

end Go.Proofs.Ytbdblfpepnoafaa
