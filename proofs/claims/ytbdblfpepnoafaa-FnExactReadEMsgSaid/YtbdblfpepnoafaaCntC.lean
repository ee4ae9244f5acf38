/-
  How many marks a command takes, by its weight. No condition.
-/
import Derived.Test.YtbdblfpepnoafaaCnt
namespace Go.Proofs.Ytbdblfpepnoafaa
open Go.RowKit

theorem CmdD.cntT_le (x : CmdD) : x.cntT ≤ 2 * x.c.wt := by
  have h0 : x.c.wt = (x.set.length + (x.name.length + (x.tag.length + (x.chunks.length + (cat strC x.chunks).wt + 0)))) := rfl
  have h1 : x.cntT = cts (fun _ => 1) x.chunks := rfl
  rw [h1, cts_const (f := fun _ => 1) (m := 1) (fun _ => rfl)]
  omega

end Go.Proofs.Ytbdblfpepnoafaa
