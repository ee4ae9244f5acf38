/-
  No cell of these rows narrows 'for every input' (looked for: loops, veiled, ifaces, maps, wideKeys, modest, calm, conditions, laid).
  DERIVED. THE GIVEN ROWS OF THIS SEAT. 12 by the template 'for every input the law returns true; each argument reads behind the call as it read before'; 0 by the template 'total and deterministic' (their statements: YtbdblfpepnoafaaTotals.lean).
  GIVEN WITH THE SEED: the statements are not yours to turn. If you find one false, say at which input.
  Laid BY PROGRAM, IN A SANDBOX (cutbox-rows.mjs): the forced cells as the released guide's own fill.sh prints them over the translation 71493c827ff6acf3… (all of the seat's roots in one cut). By AI agents, Wed Nov 11 2026. No macro, syntax, notation, axiom, sorry.
-/
import Derived.Test.YtbdblfpepnoafaaChecked
import GoSem.Claim
import GoSem.ClaimJoined
import GoSem.ClaimMapViews
import Derived.JoinedTies
import Derived.KernelRfl
namespace Go.Proofs.Ytbdblfpepnoafaa
/- THE CELL 'sum', in the pinned program and in every row, IS THE sha256 OF THE DUMP (.gsa) THAT YtbdblfpepnoafaaProg.lean LOADS. Nothing in Lean hashes anything: it is a label: what it is worth is what the hold of that sum in a sandbox is worth. -/
noncomputable def Try.pinned : Pinned := { name := "ytbdblfpepnoafaa", sum := "71493c827ff6acf37568a1d1fcd373c1e58f07a9f9ce31d0603d0033e2d070c1", checked := Try.checked }
namespace Rows
def none {H : Type} : Left H := { results := [], args := [] }

/-- 'laws.FnExactEMsgOk': WHATEVER THE INPUT: true; the input reads as it did. -/
def fnExactEMsgOkSpec : ChangeSpec := { name := "fnExactEMsgOk", fn := fun _ => fun
  | [d] => { results := [.lit (.bool true)], args := [d] }
  | _ => none }
def fnExactEMsgOkRow : OpenClaim := { program := "ytbdblfpepnoafaa", sum := "71493c827ff6acf37568a1d1fcd373c1e58f07a9f9ce31d0603d0033e2d070c1", func := "loop.example/g00954/laws.FnExactEMsgOk", spec := "fnExactEMsgOk", apart := false }
def FnExactEMsgOkSaid : Prop := fnExactEMsgOkRow.holds Try.pinned (OpenSpec.ofChange fnExactEMsgOkSpec)

/-- ITS FALSE NEIGHBOUR: 'it returns false'. Refute it at one input. -/
def fnExactEMsgOkWrong : ChangeSpec := { name := "fnExactEMsgOk", fn := fun _ => fun
  | [d] => { results := [.lit (.bool false)], args := [d] }
  | _ => none }
def FnExactEMsgOkWrongFalsely : Prop := fnExactEMsgOkRow.holds Try.pinned (OpenSpec.ofChange fnExactEMsgOkWrong)

/-- 'laws.FnExactSameMsg': WHATEVER THE INPUT: true; the input reads as it did. -/
def fnExactSameMsgSpec : ChangeSpec := { name := "fnExactSameMsg", fn := fun _ => fun
  | [d1, d2] => { results := [.lit (.bool true)], args := [d1, d2] }
  | _ => none }
def fnExactSameMsgRow : OpenClaim := { program := "ytbdblfpepnoafaa", sum := "71493c827ff6acf37568a1d1fcd373c1e58f07a9f9ce31d0603d0033e2d070c1", func := "loop.example/g00954/laws.FnExactSameMsg", spec := "fnExactSameMsg", apart := false }
def FnExactSameMsgSaid : Prop := fnExactSameMsgRow.holds Try.pinned (OpenSpec.ofChange fnExactSameMsgSpec)

/-- ITS FALSE NEIGHBOUR: 'it returns false'. Refute it at one input. -/
def fnExactSameMsgWrong : ChangeSpec := { name := "fnExactSameMsg", fn := fun _ => fun
  | [d1, d2] => { results := [.lit (.bool false)], args := [d1, d2] }
  | _ => none }
def FnExactSameMsgWrongFalsely : Prop := fnExactSameMsgRow.holds Try.pinned (OpenSpec.ofChange fnExactSameMsgWrong)

/-- 'laws.FnExactShowEMsg': WHATEVER THE INPUT: true; the input reads as it did. -/
def fnExactShowEMsgSpec : ChangeSpec := { name := "fnExactShowEMsg", fn := fun _ => fun
  | [d] => { results := [.lit (.bool true)], args := [d] }
  | _ => none }
def fnExactShowEMsgRow : OpenClaim := { program := "ytbdblfpepnoafaa", sum := "71493c827ff6acf37568a1d1fcd373c1e58f07a9f9ce31d0603d0033e2d070c1", func := "loop.example/g00954/laws.FnExactShowEMsg", spec := "fnExactShowEMsg", apart := false }
def FnExactShowEMsgSaid : Prop := fnExactShowEMsgRow.holds Try.pinned (OpenSpec.ofChange fnExactShowEMsgSpec)

/-- ITS FALSE NEIGHBOUR: 'it returns false'. Refute it at one input. -/
def fnExactShowEMsgWrong : ChangeSpec := { name := "fnExactShowEMsg", fn := fun _ => fun
  | [d] => { results := [.lit (.bool false)], args := [d] }
  | _ => none }
def FnExactShowEMsgWrongFalsely : Prop := fnExactShowEMsgRow.holds Try.pinned (OpenSpec.ofChange fnExactShowEMsgWrong)

/-- 'laws.FnExactReadEMsg': WHATEVER THE INPUT: true; the input reads as it did. -/
def fnExactReadEMsgSpec : ChangeSpec := { name := "fnExactReadEMsg", fn := fun _ => fun
  | [d] => { results := [.lit (.bool true)], args := [d] }
  | _ => none }
def fnExactReadEMsgRow : OpenClaim := { program := "ytbdblfpepnoafaa", sum := "71493c827ff6acf37568a1d1fcd373c1e58f07a9f9ce31d0603d0033e2d070c1", func := "loop.example/g00954/laws.FnExactReadEMsg", spec := "fnExactReadEMsg", apart := false }
def FnExactReadEMsgSaid : Prop := fnExactReadEMsgRow.holds Try.pinned (OpenSpec.ofChange fnExactReadEMsgSpec)

/-- ITS FALSE NEIGHBOUR: 'it returns false'. Refute it at one input. -/
def fnExactReadEMsgWrong : ChangeSpec := { name := "fnExactReadEMsg", fn := fun _ => fun
  | [d] => { results := [.lit (.bool false)], args := [d] }
  | _ => none }
def FnExactReadEMsgWrongFalsely : Prop := fnExactReadEMsgRow.holds Try.pinned (OpenSpec.ofChange fnExactReadEMsgWrong)

/-- 'laws.FnExactInstAt': WHATEVER THE INPUT: true; the input reads as it did. -/
def fnExactInstAtSpec : ChangeSpec := { name := "fnExactInstAt", fn := fun _ => fun
  | [d1, d2] => { results := [.lit (.bool true)], args := [d1, d2] }
  | _ => none }
def fnExactInstAtRow : OpenClaim := { program := "ytbdblfpepnoafaa", sum := "71493c827ff6acf37568a1d1fcd373c1e58f07a9f9ce31d0603d0033e2d070c1", func := "loop.example/g00954/laws.FnExactInstAt", spec := "fnExactInstAt", unfollowed := true, recurses := true, apart := false }
def FnExactInstAtSaid : Prop := fnExactInstAtRow.holds Try.pinned (OpenSpec.ofChange fnExactInstAtSpec)

/-- ITS FALSE NEIGHBOUR: 'it returns false'. Refute it at one input. -/
def fnExactInstAtWrong : ChangeSpec := { name := "fnExactInstAt", fn := fun _ => fun
  | [d1, d2] => { results := [.lit (.bool false)], args := [d1, d2] }
  | _ => none }
def FnExactInstAtWrongFalsely : Prop := fnExactInstAtRow.holds Try.pinned (OpenSpec.ofChange fnExactInstAtWrong)

/-- 'laws.FnExactInstsOk': WHATEVER THE INPUT: true; the input reads as it did. -/
def fnExactInstsOkSpec : ChangeSpec := { name := "fnExactInstsOk", fn := fun _ => fun
  | [d] => { results := [.lit (.bool true)], args := [d] }
  | _ => none }
def fnExactInstsOkRow : OpenClaim := { program := "ytbdblfpepnoafaa", sum := "71493c827ff6acf37568a1d1fcd373c1e58f07a9f9ce31d0603d0033e2d070c1", func := "loop.example/g00954/laws.FnExactInstsOk", spec := "fnExactInstsOk", apart := false }
def FnExactInstsOkSaid : Prop := fnExactInstsOkRow.holds Try.pinned (OpenSpec.ofChange fnExactInstsOkSpec)

/-- ITS FALSE NEIGHBOUR: 'it returns false'. Refute it at one input. -/
def fnExactInstsOkWrong : ChangeSpec := { name := "fnExactInstsOk", fn := fun _ => fun
  | [d] => { results := [.lit (.bool false)], args := [d] }
  | _ => none }
def FnExactInstsOkWrongFalsely : Prop := fnExactInstsOkRow.holds Try.pinned (OpenSpec.ofChange fnExactInstsOkWrong)

/-- 'laws.FnExactJoinIds': WHATEVER THE INPUT: true; the input reads as it did. -/
def fnExactJoinIdsSpec : ChangeSpec := { name := "fnExactJoinIds", fn := fun _ => fun
  | [d1, d2] => { results := [.lit (.bool true)], args := [d1, d2] }
  | _ => none }
def fnExactJoinIdsRow : OpenClaim := { program := "ytbdblfpepnoafaa", sum := "71493c827ff6acf37568a1d1fcd373c1e58f07a9f9ce31d0603d0033e2d070c1", func := "loop.example/g00954/laws.FnExactJoinIds", spec := "fnExactJoinIds", unfollowed := true, recurses := true, apart := false }
def FnExactJoinIdsSaid : Prop := fnExactJoinIdsRow.holds Try.pinned (OpenSpec.ofChange fnExactJoinIdsSpec)

/-- ITS FALSE NEIGHBOUR: 'it returns false'. Refute it at one input. -/
def fnExactJoinIdsWrong : ChangeSpec := { name := "fnExactJoinIds", fn := fun _ => fun
  | [d1, d2] => { results := [.lit (.bool false)], args := [d1, d2] }
  | _ => none }
def FnExactJoinIdsWrongFalsely : Prop := fnExactJoinIdsRow.holds Try.pinned (OpenSpec.ofChange fnExactJoinIdsWrong)

/-- 'laws.FnExactAttrsOf': WHATEVER THE INPUT: true; the input reads as it did. -/
def fnExactAttrsOfSpec : ChangeSpec := { name := "fnExactAttrsOf", fn := fun _ => fun
  | [d1, d2, d3] => { results := [.lit (.bool true)], args := [d1, d2, d3] }
  | _ => none }
def fnExactAttrsOfRow : OpenClaim := { program := "ytbdblfpepnoafaa", sum := "71493c827ff6acf37568a1d1fcd373c1e58f07a9f9ce31d0603d0033e2d070c1", func := "loop.example/g00954/laws.FnExactAttrsOf", spec := "fnExactAttrsOf", apart := false }
def FnExactAttrsOfSaid : Prop := fnExactAttrsOfRow.holds Try.pinned (OpenSpec.ofChange fnExactAttrsOfSpec)

/-- ITS FALSE NEIGHBOUR: 'it returns false'. Refute it at one input. -/
def fnExactAttrsOfWrong : ChangeSpec := { name := "fnExactAttrsOf", fn := fun _ => fun
  | [d1, d2, d3] => { results := [.lit (.bool false)], args := [d1, d2, d3] }
  | _ => none }
def FnExactAttrsOfWrongFalsely : Prop := fnExactAttrsOfRow.holds Try.pinned (OpenSpec.ofChange fnExactAttrsOfWrong)

/-- 'laws.FnExactReady': WHATEVER THE INPUT: true; the input reads as it did. -/
def fnExactReadySpec : ChangeSpec := { name := "fnExactReady", fn := fun _ => fun
  | [d1, d2] => { results := [.lit (.bool true)], args := [d1, d2] }
  | _ => none }
def fnExactReadyRow : OpenClaim := { program := "ytbdblfpepnoafaa", sum := "71493c827ff6acf37568a1d1fcd373c1e58f07a9f9ce31d0603d0033e2d070c1", func := "loop.example/g00954/laws.FnExactReady", spec := "fnExactReady", unfollowed := true, recurses := true, apart := false }
def FnExactReadySaid : Prop := fnExactReadyRow.holds Try.pinned (OpenSpec.ofChange fnExactReadySpec)

/-- ITS FALSE NEIGHBOUR: 'it returns false'. Refute it at one input. -/
def fnExactReadyWrong : ChangeSpec := { name := "fnExactReady", fn := fun _ => fun
  | [d1, d2] => { results := [.lit (.bool false)], args := [d1, d2] }
  | _ => none }
def FnExactReadyWrongFalsely : Prop := fnExactReadyRow.holds Try.pinned (OpenSpec.ofChange fnExactReadyWrong)

/-- 'laws.FnExactReach': WHATEVER THE INPUT: true; the input reads as it did. -/
def fnExactReachSpec : ChangeSpec := { name := "fnExactReach", fn := fun _ => fun
  | [d1, d2] => { results := [.lit (.bool true)], args := [d1, d2] }
  | _ => none }
def fnExactReachRow : OpenClaim := { program := "ytbdblfpepnoafaa", sum := "71493c827ff6acf37568a1d1fcd373c1e58f07a9f9ce31d0603d0033e2d070c1", func := "loop.example/g00954/laws.FnExactReach", spec := "fnExactReach", unfollowed := true, recurses := true, apart := false }
def FnExactReachSaid : Prop := fnExactReachRow.holds Try.pinned (OpenSpec.ofChange fnExactReachSpec)

/-- ITS FALSE NEIGHBOUR: 'it returns false'. Refute it at one input. -/
def fnExactReachWrong : ChangeSpec := { name := "fnExactReach", fn := fun _ => fun
  | [d1, d2] => { results := [.lit (.bool false)], args := [d1, d2] }
  | _ => none }
def FnExactReachWrongFalsely : Prop := fnExactReachRow.holds Try.pinned (OpenSpec.ofChange fnExactReachWrong)

/-- 'laws.FnExactENodeNew': WHATEVER THE INPUT: true; the input reads as it did. -/
def fnExactENodeNewSpec : ChangeSpec := { name := "fnExactENodeNew", fn := fun _ => fun
  | [d] => { results := [.lit (.bool true)], args := [d] }
  | _ => none }
def fnExactENodeNewRow : OpenClaim := { program := "ytbdblfpepnoafaa", sum := "71493c827ff6acf37568a1d1fcd373c1e58f07a9f9ce31d0603d0033e2d070c1", func := "loop.example/g00954/laws.FnExactENodeNew", spec := "fnExactENodeNew", apart := false }
def FnExactENodeNewSaid : Prop := fnExactENodeNewRow.holds Try.pinned (OpenSpec.ofChange fnExactENodeNewSpec)

/-- ITS FALSE NEIGHBOUR: 'it returns false'. Refute it at one input. -/
def fnExactENodeNewWrong : ChangeSpec := { name := "fnExactENodeNew", fn := fun _ => fun
  | [d] => { results := [.lit (.bool false)], args := [d] }
  | _ => none }
def FnExactENodeNewWrongFalsely : Prop := fnExactENodeNewRow.holds Try.pinned (OpenSpec.ofChange fnExactENodeNewWrong)

/-- 'laws.FnExactENetNew': WHATEVER THE INPUT: true; the input reads as it did. -/
def fnExactENetNewSpec : ChangeSpec := { name := "fnExactENetNew", fn := fun _ => fun
  | [] => { results := [.lit (.bool true)], args := [] }
  | _ => none }
def fnExactENetNewRow : OpenClaim := { program := "ytbdblfpepnoafaa", sum := "71493c827ff6acf37568a1d1fcd373c1e58f07a9f9ce31d0603d0033e2d070c1", func := "loop.example/g00954/laws.FnExactENetNew", spec := "fnExactENetNew", apart := false }
def FnExactENetNewSaid : Prop := fnExactENetNewRow.holds Try.pinned (OpenSpec.ofChange fnExactENetNewSpec)

/-- ITS FALSE NEIGHBOUR: 'it returns false'. Refute it at one input. -/
def fnExactENetNewWrong : ChangeSpec := { name := "fnExactENetNew", fn := fun _ => fun
  | [] => { results := [.lit (.bool false)], args := [] }
  | _ => none }
def FnExactENetNewWrongFalsely : Prop := fnExactENetNewRow.holds Try.pinned (OpenSpec.ofChange fnExactENetNewWrong)

/- THE SECOND FORM. 'bulk': how many values and letters a reading holds, each counted each time it is reached (what is shared counts as often as it is met; a slice's spare places count too). A statement '..UptoSaid' is the law's where the arguments, and the package variables that the reading takes, are together of bulk at most 1048576: NARROWER than '..Said'. Prove '..Said' where nothing that the law and all that it calls make is longer than what came in: it says more and counts as full. Else prove '..UptoSaid'. A law counts once. -/
mutual
def uptoBulk {H : Type} : DataW H → Nat
  | .lit (.string bytes) => bytes.length + 1
  | .lit _ => 1
  | .nil => 1
  | .ptr d => uptoBulk d + 1
  | .slice elems spare => uptoBulkAll elems + uptoBulkAll spare + 1
  | .agg parts => uptoBulkAll parts + 1
  | .iface _ d => uptoBulk d + 1
  | .map entries => uptoBulkEntries entries + 1
  | .held _ => 1
def uptoBulkAll {H : Type} : List (DataW H) → Nat
  | [] => 0
  | d :: r => uptoBulk d + uptoBulkAll r
def uptoBulkEntries {H : Type} : List (Lit × DataW H) → Nat
  | [] => 0
  | x :: r => uptoBulkEntry x + uptoBulkEntries r
def uptoBulkEntry {H : Type} : Lit × DataW H → Nat
  | (.string bytes, d) => bytes.length + uptoBulk d + 1
  | (_, d) => uptoBulk d + 1
 end
def uptoSmall : (H : Type) → List (DataW H) → Bool := fun _ ds => decide (uptoBulkAll ds ≤ 1048576)
def OpenSpec.upto (s : _root_.Go.ChangeSpec) : _root_.Go.OpenSpec := { _root_.Go.OpenSpec.ofChange s with cond := some uptoSmall }

/-- 'laws.FnExactEMsgOk', WHERE WHAT IT READS IS OF BULK AT MOST 1048576: true; the input reads as it did. -/
def fnExactEMsgOkUptoRow : OpenClaim := { program := "ytbdblfpepnoafaa", sum := "71493c827ff6acf37568a1d1fcd373c1e58f07a9f9ce31d0603d0033e2d070c1", func := "loop.example/g00954/laws.FnExactEMsgOk", spec := "fnExactEMsgOk", apart := false, narrowed := true }
def FnExactEMsgOkUptoSaid : Prop := fnExactEMsgOkUptoRow.holds Try.pinned (OpenSpec.upto fnExactEMsgOkSpec)

/-- 'laws.FnExactSameMsg', WHERE WHAT IT READS IS OF BULK AT MOST 1048576: true; the input reads as it did. -/
def fnExactSameMsgUptoRow : OpenClaim := { program := "ytbdblfpepnoafaa", sum := "71493c827ff6acf37568a1d1fcd373c1e58f07a9f9ce31d0603d0033e2d070c1", func := "loop.example/g00954/laws.FnExactSameMsg", spec := "fnExactSameMsg", apart := false, narrowed := true }
def FnExactSameMsgUptoSaid : Prop := fnExactSameMsgUptoRow.holds Try.pinned (OpenSpec.upto fnExactSameMsgSpec)

/-- 'laws.FnExactShowEMsg', WHERE WHAT IT READS IS OF BULK AT MOST 1048576: true; the input reads as it did. -/
def fnExactShowEMsgUptoRow : OpenClaim := { program := "ytbdblfpepnoafaa", sum := "71493c827ff6acf37568a1d1fcd373c1e58f07a9f9ce31d0603d0033e2d070c1", func := "loop.example/g00954/laws.FnExactShowEMsg", spec := "fnExactShowEMsg", apart := false, narrowed := true }
def FnExactShowEMsgUptoSaid : Prop := fnExactShowEMsgUptoRow.holds Try.pinned (OpenSpec.upto fnExactShowEMsgSpec)

/-- 'laws.FnExactReadEMsg', WHERE WHAT IT READS IS OF BULK AT MOST 1048576: true; the input reads as it did. -/
def fnExactReadEMsgUptoRow : OpenClaim := { program := "ytbdblfpepnoafaa", sum := "71493c827ff6acf37568a1d1fcd373c1e58f07a9f9ce31d0603d0033e2d070c1", func := "loop.example/g00954/laws.FnExactReadEMsg", spec := "fnExactReadEMsg", apart := false, narrowed := true }
def FnExactReadEMsgUptoSaid : Prop := fnExactReadEMsgUptoRow.holds Try.pinned (OpenSpec.upto fnExactReadEMsgSpec)

/-- 'laws.FnExactInstAt', WHERE WHAT IT READS IS OF BULK AT MOST 1048576: true; the input reads as it did. -/
def fnExactInstAtUptoRow : OpenClaim := { program := "ytbdblfpepnoafaa", sum := "71493c827ff6acf37568a1d1fcd373c1e58f07a9f9ce31d0603d0033e2d070c1", func := "loop.example/g00954/laws.FnExactInstAt", spec := "fnExactInstAt", unfollowed := true, recurses := true, apart := false, narrowed := true }
def FnExactInstAtUptoSaid : Prop := fnExactInstAtUptoRow.holds Try.pinned (OpenSpec.upto fnExactInstAtSpec)

/-- 'laws.FnExactInstsOk', WHERE WHAT IT READS IS OF BULK AT MOST 1048576: true; the input reads as it did. -/
def fnExactInstsOkUptoRow : OpenClaim := { program := "ytbdblfpepnoafaa", sum := "71493c827ff6acf37568a1d1fcd373c1e58f07a9f9ce31d0603d0033e2d070c1", func := "loop.example/g00954/laws.FnExactInstsOk", spec := "fnExactInstsOk", apart := false, narrowed := true }
def FnExactInstsOkUptoSaid : Prop := fnExactInstsOkUptoRow.holds Try.pinned (OpenSpec.upto fnExactInstsOkSpec)

/-- 'laws.FnExactJoinIds', WHERE WHAT IT READS IS OF BULK AT MOST 1048576: true; the input reads as it did. -/
def fnExactJoinIdsUptoRow : OpenClaim := { program := "ytbdblfpepnoafaa", sum := "71493c827ff6acf37568a1d1fcd373c1e58f07a9f9ce31d0603d0033e2d070c1", func := "loop.example/g00954/laws.FnExactJoinIds", spec := "fnExactJoinIds", unfollowed := true, recurses := true, apart := false, narrowed := true }
def FnExactJoinIdsUptoSaid : Prop := fnExactJoinIdsUptoRow.holds Try.pinned (OpenSpec.upto fnExactJoinIdsSpec)

/-- 'laws.FnExactAttrsOf', WHERE WHAT IT READS IS OF BULK AT MOST 1048576: true; the input reads as it did. -/
def fnExactAttrsOfUptoRow : OpenClaim := { program := "ytbdblfpepnoafaa", sum := "71493c827ff6acf37568a1d1fcd373c1e58f07a9f9ce31d0603d0033e2d070c1", func := "loop.example/g00954/laws.FnExactAttrsOf", spec := "fnExactAttrsOf", apart := false, narrowed := true }
def FnExactAttrsOfUptoSaid : Prop := fnExactAttrsOfUptoRow.holds Try.pinned (OpenSpec.upto fnExactAttrsOfSpec)

/-- 'laws.FnExactReady', WHERE WHAT IT READS IS OF BULK AT MOST 1048576: true; the input reads as it did. -/
def fnExactReadyUptoRow : OpenClaim := { program := "ytbdblfpepnoafaa", sum := "71493c827ff6acf37568a1d1fcd373c1e58f07a9f9ce31d0603d0033e2d070c1", func := "loop.example/g00954/laws.FnExactReady", spec := "fnExactReady", unfollowed := true, recurses := true, apart := false, narrowed := true }
def FnExactReadyUptoSaid : Prop := fnExactReadyUptoRow.holds Try.pinned (OpenSpec.upto fnExactReadySpec)

/-- 'laws.FnExactReach', WHERE WHAT IT READS IS OF BULK AT MOST 1048576: true; the input reads as it did. -/
def fnExactReachUptoRow : OpenClaim := { program := "ytbdblfpepnoafaa", sum := "71493c827ff6acf37568a1d1fcd373c1e58f07a9f9ce31d0603d0033e2d070c1", func := "loop.example/g00954/laws.FnExactReach", spec := "fnExactReach", unfollowed := true, recurses := true, apart := false, narrowed := true }
def FnExactReachUptoSaid : Prop := fnExactReachUptoRow.holds Try.pinned (OpenSpec.upto fnExactReachSpec)

/-- 'laws.FnExactENodeNew', WHERE WHAT IT READS IS OF BULK AT MOST 1048576: true; the input reads as it did. -/
def fnExactENodeNewUptoRow : OpenClaim := { program := "ytbdblfpepnoafaa", sum := "71493c827ff6acf37568a1d1fcd373c1e58f07a9f9ce31d0603d0033e2d070c1", func := "loop.example/g00954/laws.FnExactENodeNew", spec := "fnExactENodeNew", apart := false, narrowed := true }
def FnExactENodeNewUptoSaid : Prop := fnExactENodeNewUptoRow.holds Try.pinned (OpenSpec.upto fnExactENodeNewSpec)

/-- 'laws.FnExactENetNew', WHERE WHAT IT READS IS OF BULK AT MOST 1048576: true; the input reads as it did. -/
def fnExactENetNewUptoRow : OpenClaim := { program := "ytbdblfpepnoafaa", sum := "71493c827ff6acf37568a1d1fcd373c1e58f07a9f9ce31d0603d0033e2d070c1", func := "loop.example/g00954/laws.FnExactENetNew", spec := "fnExactENetNew", apart := false, narrowed := true }
def FnExactENetNewUptoSaid : Prop := fnExactENetNewUptoRow.holds Try.pinned (OpenSpec.upto fnExactENetNewSpec)

end Rows
end Go.Proofs.Ytbdblfpepnoafaa
