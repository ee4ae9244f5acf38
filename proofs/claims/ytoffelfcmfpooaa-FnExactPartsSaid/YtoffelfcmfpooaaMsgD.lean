/-
  Messages and instances: right ones, same ones. Conditions: bounds on the sizes.
-/
import Derived.Test.YtoffelfcmfpooaaCmdOk
import Derived.Test.YtoffelfcmfpooaaIdsB
import Derived.Test.YtoffelfcmfpooaaENode
namespace Go.Proofs.Ytoffelfcmfpooaa
open Go.RowKit




noncomputable def instOkB (x : InstD) : Bool := idOkB x.id && (inB (-1) 600 x.bal && (inB (-1) x.bal x.vbal && (inB 0 3 x.status && (cmdOkB x.cmd && (inB 0 60 x.seq && (idsOkB x.deps && (!hasB x.deps x.id && (x.status != 0 || (x.vbal == -1 && (x.cmd.kind == 0 && (x.seq == 0 && ((x.deps.length : Int) == 0 && !x.same))))))))))))


































end Go.Proofs.Ytoffelfcmfpooaa
